import Derived.Test.YtpkfeepepbchlaaGBd
import Derived.Test.YtpkfeepepbchlaaGWr3
namespace Go.Proofs.Ytpkfeepepbchlaa.Bl
open Go.RowKit Go.Maps Go.Proofs.YtpkfeepepbchlaaW.PrintWords Go.Proofs.YtpkfeepepbchlaaW.PrintLast Go.Proofs.YtpkfeepepbchlaaW.PrintMore Go.Proofs.Ytpkfeepepbchlaa.PK
set_option linter.unusedVariables false
set_option linter.unusedSimpArgs false
def fnum (num : Int) : Int := if num < 0 then 0 else if num > 2147483647 then 0 else num
theorem foreign_calls (num : Int) (w : World) : Calls Try.prog 50 #[.int .i64 num] w fun e w' => ∃ vb vn : Value, e = .returned (.agg #[.int .i64 (fnum num), .int .i64 3, vb, vn]) ∧ Bs.R 5 w' w.heap.size (fun _ => True) vb [] ∧ Kd.string.R 9 w' w.heap.size (fun _ => True) vn [] ∧ Below w.heap.size w w' :=
  blob_foreign.calls num (fnum num) 3 [] [] w (by unfold blob_foreign.f fnum; by_cases h1 : num < 0 <;> by_cases h2 : num > 2147483647 <;> simp [h1, h2])
theorem fill4 {w W : World} {g : Nat} {r0 r1 r2 r3 : Value} (h : W.heap[g]? = some (.cells #[r0, r1, r2, r3] 36 (0, 0))) (hg : w.heap.size ≤ g) (hb : Below w.heap.size w W) (a b c d : Value) :
    (∀ v xs, Bs.R 5 W w.heap.size (fun _ => True) v xs → Bs.R 5 ((((W.setCell ⟨g, 0, none⟩ a).setCell ⟨g, 1, none⟩ b).setCell ⟨g, 2, none⟩ c).setCell ⟨g, 3, none⟩ d) w.heap.size (fun _ => True) v xs) ∧
    (∀ v xs, Kd.string.R 9 W w.heap.size (fun _ => True) v xs → Kd.string.R 9 ((((W.setCell ⟨g, 0, none⟩ a).setCell ⟨g, 1, none⟩ b).setCell ⟨g, 2, none⟩ c).setCell ⟨g, 3, none⟩ d) w.heap.size (fun _ => True) v xs) ∧
    Below w.heap.size w ((((W.setCell ⟨g, 0, none⟩ a).setCell ⟨g, 1, none⟩ b).setCell ⟨g, 2, none⟩ c).setCell ⟨g, 3, none⟩ d) :=
  ⟨fun v xs hr => Kd.R_set (Kd.R_set (Kd.R_set (Kd.R_set hr h (by decide) 0 _) (blk_put h 0 _ rfl) (by decide) 1 _) (blk_put (blk_put h 0 _ rfl) 1 _ rfl) (by decide) 2 _) (blk_put (blk_put (blk_put h 0 _ rfl) 1 _ rfl) 2 _ rfl) (by decide) 3 _,
   fun v xs hr => Kd.R_set (Kd.R_set (Kd.R_set (Kd.R_set hr h (by decide) 0 _) (blk_put h 0 _ rfl) (by decide) 1 _) (blk_put (blk_put h 0 _ rfl) 1 _ rfl) (by decide) 2 _) (blk_put (blk_put (blk_put h 0 _ rfl) 1 _ rfl) 2 _ rfl) (by decide) 3 _,
   (((hb.setCell hg _).setCell hg _).setCell hg _).setCell hg _⟩
theorem fill4_bl {W : World} {g gb bb : Nat} {q : Int} {L : List Ent} {r0 r1 r2 r3 : Value} (h : W.heap[g]? = some (.cells #[r0, r1, r2, r3] 36 (0, 0))) (hB : Bl W gb bb q L) (a b c d : Value) :
    Bl ((((W.setCell ⟨g, 0, none⟩ a).setCell ⟨g, 1, none⟩ b).setCell ⟨g, 2, none⟩ c).setCell ⟨g, 3, none⟩ d) gb bb q L :=
  Bl.set (Bl.set (Bl.set (Bl.set hB h (by decide) (by decide) 0 _) (blk_put h 0 _ rfl) (by decide) (by decide) 1 _) (blk_put (blk_put h 0 _ rfl) 1 _ rfl) (by decide) (by decide) 2 _) (blk_put (blk_put (blk_put h 0 _ rfl) 1 _ rfl) 2 _ rfl) (by decide) (by decide) 3 _
theorem fill4_grown {w W : World} {g : Nat} {row : Option Nat} (h : w.grownBy W row) (hg : w.heap.size ≤ g) (a b c d : Value) : w.grownBy ((((W.setCell ⟨g, 0, none⟩ a).setCell ⟨g, 1, none⟩ b).setCell ⟨g, 2, none⟩ c).setCell ⟨g, 3, none⟩ d) row := by
  have st : ∀ {W : World} (i : Nat) (u : Value), w.grownBy W row → w.grownBy (W.setCell ⟨g, i, none⟩ u) row := fun {W} i u h =>
    ⟨h.os, h.tape, h.output, by have := h.size; simpa [World.setCell] using this, fun j hj hne => (Below.heap_setCell W ⟨g, i, none⟩ u j (by show j ≠ g; omega)).trans (h.block j hj hne)⟩
  exact st 3 d (st 2 c (st 1 b (st 0 a h)))
set_option maxRecDepth 20000 in
set_option maxHeartbeats 4000000 in
theorem Do_foreign (P : Option Addr) (kind num : Int) (k : ByteArray) (A : Option Addr) (c : Nat) (t : List Int) (w : World) (hP : Sb.okA kind num k.size t.length = false ∨ P = none) (hc : t.length ≤ c) (hr : Bs.C w A t.length t) :
    Calls Try.prog 51 #[.pointer P, .agg #[.int .i64 kind, .int .i64 num, .string k, .slice A t.length c]] w fun e w' => ∃ vb vn, e = .returned (.agg #[.int .i64 (fnum num), .int .i64 3, vb, vn]) ∧ Bs.R 5 w' w.heap.size (fun _ => True) vb [] ∧ Kd.string.R 9 w' w.heap.size (fun _ => True) vn [] ∧ Below w.heap.size w w' := by
  have HR := Aside0.mk hr
  have B1 := Aside0.mk (below_alloc (below_alloc (Below.refl w.heap.size w) (.cells #[.int .i64 kind, .int .i64 num, .string k, .slice A t.length c] 30)) (.cells #[.int .i64 0, .int .i64 0, .slice none 0 0, .slice none 0 0] 36))
  clear hr
  cases hK : Sb.okA kind num k.size t.length with
  | false =>
    have hf := (show (Sb.askB kind num k t).2 = 14 by unfold Sb.askB; rw [hK]; rfl)
    go_enter Try.func51, Try.ntmps51
    go_wp2_with fail
    refine (Sb.PutAsk_calls kind num k A t.length c t _ trivial trivial rfl hc (Kd.C_below HR.out B1.out)).mono ?_
    rintro e w1 ⟨u, rfl, _, hb1⟩
    have B2 := Aside0.mk (B1.out.trans (hb1.mono B1.out.size))
    have KA := Aside0.mk (blk_below (blk_alloc (blk_new w (.cells #[.int .i64 kind, .int .i64 num, .string k, .slice A t.length c] 30)) (.cells #[.int .i64 0, .int .i64 0, .slice none 0 0, .slice none 0 0] 36)) hb1)
    have KR := Aside0.mk (show w1.heap[w.heap.size + 1]? = some (.cells #[.int .i64 0, .int .i64 0, .slice none 0 0, .slice none 0 0] 36 (0, 0)) from by have h := blk_below (blk_new (w.alloc (.cells #[.int .i64 kind, .int .i64 num, .string k, .slice A t.length c] 30)) (.cells #[.int .i64 0, .int .i64 0, .slice none 0 0, .slice none 0 0] 36)) hb1; simpa using h)
    clear hb1
    rw [hf]
    clear hf
    have HA := KA.out
    have HE := KR.out
    have a0 : (w1).cell? ⟨w.heap.size, 0, none⟩ = some (.int .i64 kind) := (blk_cell (HA) 0).trans rfl
    have az0 := blk_frozen (HA) 0
    have a1 : (w1).cell? ⟨w.heap.size, 1, none⟩ = some (.int .i64 num) := (blk_cell (HA) 1).trans rfl
    have az1 := blk_frozen (HA) 1
    have a2 : (w1).cell? ⟨w.heap.size, 2, none⟩ = some (.string k) := (blk_cell (HA) 2).trans rfl
    have az2 := blk_frozen (HA) 2
    have a3 : (w1).cell? ⟨w.heap.size, 3, none⟩ = some (.slice A t.length c) := (blk_cell (HA) 3).trans rfl
    have az3 := blk_frozen (HA) 3
    have r0 : (w1).cell? ⟨w.heap.size + 1, 0, none⟩ = some (.int .i64 0) := (blk_cell (HE) 0).trans rfl
    have rz0 := blk_frozen (HE) 0
    have r1 : (w1).cell? ⟨w.heap.size + 1, 1, none⟩ = some (.int .i64 0) := (blk_cell (HE) 1).trans rfl
    have rz1 := blk_frozen (HE) 1
    have r2 : (w1).cell? ⟨w.heap.size + 1, 2, none⟩ = some (.slice none 0 0) := (blk_cell (HE) 2).trans rfl
    have rz2 := blk_frozen (HE) 2
    have r3 : (w1).cell? ⟨w.heap.size + 1, 3, none⟩ = some (.slice none 0 0) := (blk_cell (HE) 3).trans rfl
    have rz3 := blk_frozen (HE) 3
    clear HA HE
    go_wp2_with fail
    refine (foreign_calls num w1).mono ?_
    rintro e w2 ⟨vb, vn, rfl, hvb, hvn, hb2⟩
    obtain ⟨A1, c1, rfl, hc1, hC1⟩ := Kd.R_reads hvb
    obtain ⟨A2, c2, rfl, hc2, hC2⟩ := Kd.R_reads hvn
    have HA := blk_below KA.out hb2
    have HE := blk_below KR.out hb2
    have HVB := Aside0.mk hvb
    have HVN := Aside0.mk hvn
    have HB2 := Aside0.mk (B2.out.trans (hb2.mono B2.out.size))
    have KE := Aside0.mk HE
    clear hvb hvn hb2 hC1 hC2 a0 az0 a1 az1 a2 az2 a3 az3 r0 rz0 r1 rz1 r2 rz2 r3 rz3
    have r0 : (w2).cell? ⟨w.heap.size + 1, 0, none⟩ = some (.int .i64 0) := (blk_cell (HE) 0).trans rfl
    have rz0 := blk_frozen (HE) 0
    have r1 : (w2).cell? ⟨w.heap.size + 1, 1, none⟩ = some (.int .i64 0) := (blk_cell (HE) 1).trans rfl
    have rz1 := blk_frozen (HE) 1
    have r2 : (w2).cell? ⟨w.heap.size + 1, 2, none⟩ = some (.slice none 0 0) := (blk_cell (HE) 2).trans rfl
    have rz2 := blk_frozen (HE) 2
    have r3 : (w2).cell? ⟨w.heap.size + 1, 3, none⟩ = some (.slice none 0 0) := (blk_cell (HE) 3).trans rfl
    have rz3 := blk_frozen (HE) 3
    clear HE HA
    go_wp2_with fail
    have hz := blk_put (blk_put (blk_put (blk_put KE.out 0 (.int .i64 (fnum num)) rfl) 1 (.int .i64 3) rfl) 2 (.slice A1 0 c1) rfl) 3 (.slice A2 0 c2) rfl
    refine bodyPost_ret (results_cell_row rfl _ _ (w.heap.size + 1) 36 _ (0, 0) _ rfl hz Try.underlying36 rfl (by kernel_rfl)) rfl ?_
    obtain ⟨F1, F2, F3⟩ := fill4 KE.out (by omega) HB2.out (.int .i64 (fnum num)) (.int .i64 3) (.slice A1 0 c1) (.slice A2 0 c2)
    exact ⟨_, _, rfl, F1 _ _ (Kd.R_lower HVB.out B2.out.size), F2 _ _ (Kd.R_lower HVN.out B2.out.size), F3⟩
  | true =>
    obtain rfl : P = none := by
      rcases hP with h | h
      · rw [hK] at h; cases h
      · exact h
    have hf := (show (Sb.askB kind num k t).2 = 0 by unfold Sb.askB; rw [hK]; rfl)
    go_enter Try.func51, Try.ntmps51
    go_wp2_with fail
    refine (Sb.PutAsk_calls kind num k A t.length c t _ trivial trivial rfl hc (Kd.C_below HR.out B1.out)).mono ?_
    rintro e w1 ⟨u, rfl, _, hb1⟩
    have B2 := Aside0.mk (B1.out.trans (hb1.mono B1.out.size))
    have KA := Aside0.mk (blk_below (blk_alloc (blk_new w (.cells #[.int .i64 kind, .int .i64 num, .string k, .slice A t.length c] 30)) (.cells #[.int .i64 0, .int .i64 0, .slice none 0 0, .slice none 0 0] 36)) hb1)
    have KR := Aside0.mk (show w1.heap[w.heap.size + 1]? = some (.cells #[.int .i64 0, .int .i64 0, .slice none 0 0, .slice none 0 0] 36 (0, 0)) from by have h := blk_below (blk_new (w.alloc (.cells #[.int .i64 kind, .int .i64 num, .string k, .slice A t.length c] 30)) (.cells #[.int .i64 0, .int .i64 0, .slice none 0 0, .slice none 0 0] 36)) hb1; simpa using h)
    clear hb1
    rw [hf]
    clear hf
    have HA := KA.out
    have HE := KR.out
    have a0 : (w1).cell? ⟨w.heap.size, 0, none⟩ = some (.int .i64 kind) := (blk_cell (HA) 0).trans rfl
    have az0 := blk_frozen (HA) 0
    have a1 : (w1).cell? ⟨w.heap.size, 1, none⟩ = some (.int .i64 num) := (blk_cell (HA) 1).trans rfl
    have az1 := blk_frozen (HA) 1
    have a2 : (w1).cell? ⟨w.heap.size, 2, none⟩ = some (.string k) := (blk_cell (HA) 2).trans rfl
    have az2 := blk_frozen (HA) 2
    have a3 : (w1).cell? ⟨w.heap.size, 3, none⟩ = some (.slice A t.length c) := (blk_cell (HA) 3).trans rfl
    have az3 := blk_frozen (HA) 3
    have r0 : (w1).cell? ⟨w.heap.size + 1, 0, none⟩ = some (.int .i64 0) := (blk_cell (HE) 0).trans rfl
    have rz0 := blk_frozen (HE) 0
    have r1 : (w1).cell? ⟨w.heap.size + 1, 1, none⟩ = some (.int .i64 0) := (blk_cell (HE) 1).trans rfl
    have rz1 := blk_frozen (HE) 1
    have r2 : (w1).cell? ⟨w.heap.size + 1, 2, none⟩ = some (.slice none 0 0) := (blk_cell (HE) 2).trans rfl
    have rz2 := blk_frozen (HE) 2
    have r3 : (w1).cell? ⟨w.heap.size + 1, 3, none⟩ = some (.slice none 0 0) := (blk_cell (HE) 3).trans rfl
    have rz3 := blk_frozen (HE) 3
    clear HA HE
    go_wp2_with fail
    refine (foreign_calls num w1).mono ?_
    rintro e w2 ⟨vb, vn, rfl, hvb, hvn, hb2⟩
    obtain ⟨A1, c1, rfl, hc1, hC1⟩ := Kd.R_reads hvb
    obtain ⟨A2, c2, rfl, hc2, hC2⟩ := Kd.R_reads hvn
    have HA := blk_below KA.out hb2
    have HE := blk_below KR.out hb2
    have HVB := Aside0.mk hvb
    have HVN := Aside0.mk hvn
    have HB2 := Aside0.mk (B2.out.trans (hb2.mono B2.out.size))
    have KE := Aside0.mk HE
    clear hvb hvn hb2 hC1 hC2 a0 az0 a1 az1 a2 az2 a3 az3 r0 rz0 r1 rz1 r2 rz2 r3 rz3
    have r0 : (w2).cell? ⟨w.heap.size + 1, 0, none⟩ = some (.int .i64 0) := (blk_cell (HE) 0).trans rfl
    have rz0 := blk_frozen (HE) 0
    have r1 : (w2).cell? ⟨w.heap.size + 1, 1, none⟩ = some (.int .i64 0) := (blk_cell (HE) 1).trans rfl
    have rz1 := blk_frozen (HE) 1
    have r2 : (w2).cell? ⟨w.heap.size + 1, 2, none⟩ = some (.slice none 0 0) := (blk_cell (HE) 2).trans rfl
    have rz2 := blk_frozen (HE) 2
    have r3 : (w2).cell? ⟨w.heap.size + 1, 3, none⟩ = some (.slice none 0 0) := (blk_cell (HE) 3).trans rfl
    have rz3 := blk_frozen (HE) 3
    clear HE HA
    go_wp2_with fail
    have hz := blk_put (blk_put (blk_put (blk_put KE.out 0 (.int .i64 (fnum num)) rfl) 1 (.int .i64 3) rfl) 2 (.slice A1 0 c1) rfl) 3 (.slice A2 0 c2) rfl
    refine bodyPost_ret (results_cell_row rfl _ _ (w.heap.size + 1) 36 _ (0, 0) _ rfl hz Try.underlying36 rfl (by kernel_rfl)) rfl ?_
    obtain ⟨F1, F2, F3⟩ := fill4 KE.out (by omega) HB2.out (.int .i64 (fnum num)) (.int .i64 3) (.slice A1 0 c1) (.slice A2 0 c2)
    exact ⟨_, _, rfl, F1 _ _ (Kd.R_lower HVB.out B2.out.size), F2 _ _ (Kd.R_lower HVN.out B2.out.size), F3⟩
end Go.Proofs.Ytpkfeepepbchlaa.Bl
namespace Go.Proofs.Ytpkfeepepbchlaa.Bl
open Go.RowKit Go.Maps Go.Proofs.YtpkfeepepbchlaaW.PrintWords Go.Proofs.YtpkfeepepbchlaaW.PrintLast Go.Proofs.YtpkfeepepbchlaaW.PrintMore Go.Proofs.Ytpkfeepepbchlaa.PK
set_option linter.unusedVariables false
set_option linter.unusedSimpArgs false
theorem fill4_res {W : World} {g : Nat} {r0 r1 r2 r3 : Value} (h : W.heap[g]? = some (.cells #[r0, r1, r2, r3] 36 (0, 0))) (a b c d : Value) :
    ((((W.setCell ⟨g, 0, none⟩ a).setCell ⟨g, 1, none⟩ b).setCell ⟨g, 2, none⟩ c).setCell ⟨g, 3, none⟩ d).heap[g]? = some (.cells #[a, b, c, d] 36 (0, 0)) := blk_put (blk_put (blk_put (blk_put h 0 _ rfl) 1 _ rfl) 2 _ rfl) 3 _ rfl
structure DS (w W : World) (p : Nat) (asks cs : Array Value) : Prop where
  ask : W.heap[w.heap.size]? = some (.cells asks 30 (0, 0))
  res : W.heap[w.heap.size + 1]? = some (.cells #[.int .i64 0, .int .i64 0, .slice none 0 0, .slice none 0 0] 36 (0, 0))
  out : W.heap[p]? = some (.cells cs 36 (0, 0))
  lt : w.heap.size + 1 < p
  below : Below w.heap.size w W
theorem DS.start {w w1 W : World} {asks cs : Array Value} (hB : Below w.heap.size w w1) (hA : w1.heap[w.heap.size]? = some (.cells asks 30 (0, 0))) (hR : w1.heap[w.heap.size + 1]? = some (.cells #[.int .i64 0, .int .i64 0, .slice none 0 0, .slice none 0 0] 36 (0, 0)))
    (hlt : w.heap.size + 1 < w1.heap.size) (h : W.heap[w1.heap.size]? = some (.cells cs 36 (0, 0)) ∧ Below w1.heap.size w1 W) : DS w W w1.heap.size asks cs :=
  ⟨blk_below hA h.2, blk_below hR h.2, h.1, hlt, hB.trans (h.2.mono hB.size)⟩
theorem DS.kept {w W W' : World} {p : Nat} {asks cs : Array Value} (h : DS w W p asks cs) (hb : Below W.heap.size W W') : DS w W' p asks cs :=
  ⟨blk_below h.ask hb, blk_below h.res hb, blk_below h.out hb, h.lt, h.below.trans (hb.mono h.below.size)⟩
theorem DS.put {w W : World} {p : Nat} {asks cs cs' : Array Value} (h : DS w W p asks cs) (i : Nat) (u : Value) (e : cs.setIfInBounds i u = cs') : DS w (W.setCell ⟨p, i, none⟩ u) p asks cs' := by
  have hlt := h.lt
  exact ⟨blk_far h.ask (by show w.heap.size ≠ p; omega) u, blk_far h.res (by show w.heap.size + 1 ≠ p; omega) u, blk_put h.out i u e, h.lt, h.below.setCell (by show w.heap.size ≤ p; omega) u⟩
set_option maxRecDepth 20000 in
set_option maxHeartbeats 4000000 in
theorem Do_get (g b : Nat) (q : Int) (L : List Ent) (num : Int) (k : ByteArray) (A : Option Addr) (c : Nat) (t : List Int) (w : World) (h : Bl w g b q L) (hK : Sb.okA 2 num k.size t.length = true) (hk : k.size ≤ 64) (ht : t.length ≤ 60000) (hc : t.length ≤ c) (hr : Bs.C w A t.length t) :
    Calls Try.prog 51 #[.pointer (some ⟨g, 0, none⟩), .agg #[.int .i64 2, .int .i64 num, .string k, .slice A t.length c]] w fun e w' => ∃ vb vn, e = .returned (.agg #[.int .i64 num, .int .i64 (if (findE k L).isSome then 0 else 1), vb, vn]) ∧ Bs.R 5 w' w.heap.size (fun _ => True) vb (((findE k L).map (·.2.2)).getD []) ∧ Kd.string.R 9 w' w.heap.size (fun _ => True) vn [] ∧ Bl w' g b q L ∧ Below w.heap.size w w' := by
  have HR := Aside0.mk hr
  have HH := Aside0.mk h
  have B1 := Aside0.mk (below_alloc (below_alloc (Below.refl w.heap.size w) (.cells #[.int .i64 2, .int .i64 num, .string k, .slice A t.length c] 30)) (.cells #[.int .i64 0, .int .i64 0, .slice none 0 0, .slice none 0 0] 36))
  clear hr h
  obtain ⟨bd, hbd⟩ : ∃ bd, ((findE k L).map (·.2.2)).getD [] = bd := ⟨_, rfl⟩
  rw [hbd]
  cases hfd : (findE k L).isSome with
  | true =>
    rw [if_pos rfl]
    have hf := (show (Sb.askB 2 num k t).2 = 0 by unfold Sb.askB; rw [hK]; rfl)
    go_enter Try.func51, Try.ntmps51
    go_wp2_with fail
    refine (Sb.PutAsk_calls 2 num k A t.length c t _ trivial trivial rfl hc (Kd.C_below HR.out B1.out)).mono ?_
    rintro e w1 ⟨u, rfl, _, hb1⟩
    have B2 := Aside0.mk (B1.out.trans (hb1.mono B1.out.size))
    have KA := Aside0.mk (blk_below (blk_alloc (blk_new w (.cells #[.int .i64 2, .int .i64 num, .string k, .slice A t.length c] 30)) (.cells #[.int .i64 0, .int .i64 0, .slice none 0 0, .slice none 0 0] 36)) hb1)
    have KR := Aside0.mk (show w1.heap[w.heap.size + 1]? = some (.cells #[.int .i64 0, .int .i64 0, .slice none 0 0, .slice none 0 0] 36 (0, 0)) from by have h := blk_below (blk_new (w.alloc (.cells #[.int .i64 2, .int .i64 num, .string k, .slice A t.length c] 30)) (.cells #[.int .i64 0, .int .i64 0, .slice none 0 0, .slice none 0 0] 36)) hb1; simpa using h)
    clear hb1
    rw [hf]
    clear hf
    have hlt : w.heap.size + 1 < w1.heap.size := blk_lt KR.out
    have HA := KA.out
    have a0 : (w1).cell? ⟨w.heap.size, 0, none⟩ = some (.int .i64 2) := (blk_cell (HA) 0).trans rfl
    have az0 := blk_frozen (HA) 0
    have a1 : (w1).cell? ⟨w.heap.size, 1, none⟩ = some (.int .i64 num) := (blk_cell (HA) 1).trans rfl
    have az1 := blk_frozen (HA) 1
    have a2 : (w1).cell? ⟨w.heap.size, 2, none⟩ = some (.string k) := (blk_cell (HA) 2).trans rfl
    have az2 := blk_frozen (HA) 2
    have a3 : (w1).cell? ⟨w.heap.size, 3, none⟩ = some (.slice A t.length c) := (blk_cell (HA) 3).trans rfl
    have az3 := blk_frozen (HA) 3
    clear HA
    have n1 : w1.heap.size ≠ w.heap.size := by omega
    have n2 : w.heap.size ≠ w1.heap.size := by omega
    have n3 : w1.heap.size ≠ w.heap.size + 1 := by omega
    have n4 : w.heap.size + 1 ≠ w1.heap.size := by omega
    have n5 : w.heap.size < w1.heap.size := by omega
    go_wp2_with fail
    have hDS := DS.start B2.out KA.out KR.out hlt ⟨blk_new w1 (.cells #[.int .i64 num, .int .i64 0, .slice none 0 0, .slice none 0 0] 36), below_alloc (Below.refl _ _) _⟩
    generalize w1.alloc (.cells #[.int .i64 num, .int .i64 0, .slice none 0 0, .slice none 0 0] 36) = W2 at hDS ⊢
    have DS2 := Aside0.mk hDS
    clear hDS KA KR B2 B1 a0 az0 a1 az1 a2 az2 a3 az3
    refine (Has_calls g b q L k _ (Bl.kept HH.out DS2.out.below) (by omega)).mono ?_
    rintro e w3 ⟨v, rfl, hR, hb3⟩
    rw [hbd] at hR
    rw [hfd]
    obtain ⟨A1, c1, rfl, hc1, _⟩ := Kd.R_reads hR
    have DS3 := Aside0.mk (DS2.out.kept hb3)
    have HR3 := Aside0.mk (Kd.R_lower hR DS2.out.below.size)
    have BL3 := Aside0.mk (Bl.kept HH.out DS3.out.below)
    clear hR hb3
    have a0 : (w3).cell? ⟨w.heap.size, 0, none⟩ = some (.int .i64 2) := (blk_cell (DS3.out.ask) 0).trans rfl
    have az0 := blk_frozen (DS3.out.ask) 0
    have a1 : (w3).cell? ⟨w.heap.size, 1, none⟩ = some (.int .i64 num) := (blk_cell (DS3.out.ask) 1).trans rfl
    have az1 := blk_frozen (DS3.out.ask) 1
    have a2 : (w3).cell? ⟨w.heap.size, 2, none⟩ = some (.string k) := (blk_cell (DS3.out.ask) 2).trans rfl
    have az2 := blk_frozen (DS3.out.ask) 2
    have a3 : (w3).cell? ⟨w.heap.size, 3, none⟩ = some (.slice A t.length c) := (blk_cell (DS3.out.ask) 3).trans rfl
    have az3 := blk_frozen (DS3.out.ask) 3
    have p0 : (w3).cell? ⟨w1.heap.size, 0, none⟩ = some (.int .i64 num) := (blk_cell (DS3.out.out) 0).trans rfl
    have pz0 := blk_frozen (DS3.out.out) 0
    have p1 : (w3).cell? ⟨w1.heap.size, 1, none⟩ = some (.int .i64 0) := (blk_cell (DS3.out.out) 1).trans rfl
    have pz1 := blk_frozen (DS3.out.out) 1
    have p2 : (w3).cell? ⟨w1.heap.size, 2, none⟩ = some (.slice none 0 0) := (blk_cell (DS3.out.out) 2).trans rfl
    have pz2 := blk_frozen (DS3.out.out) 2
    have p3 : (w3).cell? ⟨w1.heap.size, 3, none⟩ = some (.slice none 0 0) := (blk_cell (DS3.out.out) 3).trans rfl
    have pz3 := blk_frozen (DS3.out.out) 3
    have r0 : (w3).cell? ⟨w.heap.size + 1, 0, none⟩ = some (.int .i64 0) := (blk_cell (DS3.out.res) 0).trans rfl
    have rz0 := blk_frozen (DS3.out.res) 0
    have r1 : (w3).cell? ⟨w.heap.size + 1, 1, none⟩ = some (.int .i64 0) := (blk_cell (DS3.out.res) 1).trans rfl
    have rz1 := blk_frozen (DS3.out.res) 1
    have r2 : (w3).cell? ⟨w.heap.size + 1, 2, none⟩ = some (.slice none 0 0) := (blk_cell (DS3.out.res) 2).trans rfl
    have rz2 := blk_frozen (DS3.out.res) 2
    have r3 : (w3).cell? ⟨w.heap.size + 1, 3, none⟩ = some (.slice none 0 0) := (blk_cell (DS3.out.res) 3).trans rfl
    have rz3 := blk_frozen (DS3.out.res) 3
    go_wp2_with fail
    have D4 := DS3.out.put 2 (.slice A1 bd.length c1) rfl
    refine bodyPost_ret (results_cell_row rfl _ _ (w.heap.size + 1) 36 _ (0, 0) _ rfl (fill4_res D4.res (.int .i64 num) (.int .i64 0) (.slice A1 bd.length c1) (.slice none 0 0)) Try.underlying36 rfl (by kernel_rfl)) rfl ?_
    obtain ⟨F1, F2, F3⟩ := fill4 D4.res (by omega) D4.below (.int .i64 num) (.int .i64 0) (.slice A1 bd.length c1) (.slice none 0 0)
    exact ⟨_, _, rfl, F1 _ _ (Kd.R_set HR3.out DS3.out.out (by decide) 2 _), Kd.R_nil _ _ _ _ _, fill4_bl D4.res (Bl.set BL3.out DS3.out.out (by decide) (by decide) 2 _) _ _ _ _, F3⟩
  | false =>
    rw [if_neg (by simp)]
    have hf := (show (Sb.askB 2 num k t).2 = 0 by unfold Sb.askB; rw [hK]; rfl)
    go_enter Try.func51, Try.ntmps51
    go_wp2_with fail
    refine (Sb.PutAsk_calls 2 num k A t.length c t _ trivial trivial rfl hc (Kd.C_below HR.out B1.out)).mono ?_
    rintro e w1 ⟨u, rfl, _, hb1⟩
    have B2 := Aside0.mk (B1.out.trans (hb1.mono B1.out.size))
    have KA := Aside0.mk (blk_below (blk_alloc (blk_new w (.cells #[.int .i64 2, .int .i64 num, .string k, .slice A t.length c] 30)) (.cells #[.int .i64 0, .int .i64 0, .slice none 0 0, .slice none 0 0] 36)) hb1)
    have KR := Aside0.mk (show w1.heap[w.heap.size + 1]? = some (.cells #[.int .i64 0, .int .i64 0, .slice none 0 0, .slice none 0 0] 36 (0, 0)) from by have h := blk_below (blk_new (w.alloc (.cells #[.int .i64 2, .int .i64 num, .string k, .slice A t.length c] 30)) (.cells #[.int .i64 0, .int .i64 0, .slice none 0 0, .slice none 0 0] 36)) hb1; simpa using h)
    clear hb1
    rw [hf]
    clear hf
    have hlt : w.heap.size + 1 < w1.heap.size := blk_lt KR.out
    have HA := KA.out
    have a0 : (w1).cell? ⟨w.heap.size, 0, none⟩ = some (.int .i64 2) := (blk_cell (HA) 0).trans rfl
    have az0 := blk_frozen (HA) 0
    have a1 : (w1).cell? ⟨w.heap.size, 1, none⟩ = some (.int .i64 num) := (blk_cell (HA) 1).trans rfl
    have az1 := blk_frozen (HA) 1
    have a2 : (w1).cell? ⟨w.heap.size, 2, none⟩ = some (.string k) := (blk_cell (HA) 2).trans rfl
    have az2 := blk_frozen (HA) 2
    have a3 : (w1).cell? ⟨w.heap.size, 3, none⟩ = some (.slice A t.length c) := (blk_cell (HA) 3).trans rfl
    have az3 := blk_frozen (HA) 3
    clear HA
    have n1 : w1.heap.size ≠ w.heap.size := by omega
    have n2 : w.heap.size ≠ w1.heap.size := by omega
    have n3 : w1.heap.size ≠ w.heap.size + 1 := by omega
    have n4 : w.heap.size + 1 ≠ w1.heap.size := by omega
    have n5 : w.heap.size < w1.heap.size := by omega
    go_wp2_with fail
    have hDS := DS.start B2.out KA.out KR.out hlt ⟨blk_new w1 (.cells #[.int .i64 num, .int .i64 0, .slice none 0 0, .slice none 0 0] 36), below_alloc (Below.refl _ _) _⟩
    generalize w1.alloc (.cells #[.int .i64 num, .int .i64 0, .slice none 0 0, .slice none 0 0] 36) = W2 at hDS ⊢
    have DS2 := Aside0.mk hDS
    clear hDS KA KR B2 B1 a0 az0 a1 az1 a2 az2 a3 az3
    refine (Has_calls g b q L k _ (Bl.kept HH.out DS2.out.below) (by omega)).mono ?_
    rintro e w3 ⟨v, rfl, hR, hb3⟩
    rw [hbd] at hR
    rw [hfd]
    obtain ⟨A1, c1, rfl, hc1, _⟩ := Kd.R_reads hR
    have DS3 := Aside0.mk (DS2.out.kept hb3)
    have HR3 := Aside0.mk (Kd.R_lower hR DS2.out.below.size)
    have BL3 := Aside0.mk (Bl.kept HH.out DS3.out.below)
    clear hR hb3
    have a0 : (w3).cell? ⟨w.heap.size, 0, none⟩ = some (.int .i64 2) := (blk_cell (DS3.out.ask) 0).trans rfl
    have az0 := blk_frozen (DS3.out.ask) 0
    have a1 : (w3).cell? ⟨w.heap.size, 1, none⟩ = some (.int .i64 num) := (blk_cell (DS3.out.ask) 1).trans rfl
    have az1 := blk_frozen (DS3.out.ask) 1
    have a2 : (w3).cell? ⟨w.heap.size, 2, none⟩ = some (.string k) := (blk_cell (DS3.out.ask) 2).trans rfl
    have az2 := blk_frozen (DS3.out.ask) 2
    have a3 : (w3).cell? ⟨w.heap.size, 3, none⟩ = some (.slice A t.length c) := (blk_cell (DS3.out.ask) 3).trans rfl
    have az3 := blk_frozen (DS3.out.ask) 3
    have p0 : (w3).cell? ⟨w1.heap.size, 0, none⟩ = some (.int .i64 num) := (blk_cell (DS3.out.out) 0).trans rfl
    have pz0 := blk_frozen (DS3.out.out) 0
    have p1 : (w3).cell? ⟨w1.heap.size, 1, none⟩ = some (.int .i64 0) := (blk_cell (DS3.out.out) 1).trans rfl
    have pz1 := blk_frozen (DS3.out.out) 1
    have p2 : (w3).cell? ⟨w1.heap.size, 2, none⟩ = some (.slice none 0 0) := (blk_cell (DS3.out.out) 2).trans rfl
    have pz2 := blk_frozen (DS3.out.out) 2
    have p3 : (w3).cell? ⟨w1.heap.size, 3, none⟩ = some (.slice none 0 0) := (blk_cell (DS3.out.out) 3).trans rfl
    have pz3 := blk_frozen (DS3.out.out) 3
    have r0 : (w3).cell? ⟨w.heap.size + 1, 0, none⟩ = some (.int .i64 0) := (blk_cell (DS3.out.res) 0).trans rfl
    have rz0 := blk_frozen (DS3.out.res) 0
    have r1 : (w3).cell? ⟨w.heap.size + 1, 1, none⟩ = some (.int .i64 0) := (blk_cell (DS3.out.res) 1).trans rfl
    have rz1 := blk_frozen (DS3.out.res) 1
    have r2 : (w3).cell? ⟨w.heap.size + 1, 2, none⟩ = some (.slice none 0 0) := (blk_cell (DS3.out.res) 2).trans rfl
    have rz2 := blk_frozen (DS3.out.res) 2
    have r3 : (w3).cell? ⟨w.heap.size + 1, 3, none⟩ = some (.slice none 0 0) := (blk_cell (DS3.out.res) 3).trans rfl
    have rz3 := blk_frozen (DS3.out.res) 3
    go_wp2_with fail
    have D4 := (DS3.out.put 2 (.slice A1 bd.length c1) rfl).put 1 (.int .i64 1) rfl
    refine bodyPost_ret (results_cell_row rfl _ _ (w.heap.size + 1) 36 _ (0, 0) _ rfl (fill4_res D4.res (.int .i64 num) (.int .i64 1) (.slice A1 bd.length c1) (.slice none 0 0)) Try.underlying36 rfl (by kernel_rfl)) rfl ?_
    obtain ⟨F1, F2, F3⟩ := fill4 D4.res (by omega) D4.below (.int .i64 num) (.int .i64 1) (.slice A1 bd.length c1) (.slice none 0 0)
    exact ⟨_, _, rfl, F1 _ _ (Kd.R_set (Kd.R_set HR3.out DS3.out.out (by decide) 2 _) (DS3.out.put 2 (.slice A1 bd.length c1) rfl).out (by decide) 1 _), Kd.R_nil _ _ _ _ _, fill4_bl D4.res (Bl.set (Bl.set BL3.out DS3.out.out (by decide) (by decide) 2 _) (DS3.out.put 2 (.slice A1 bd.length c1) rfl).out (by decide) (by decide) 1 _) _ _ _ _, F3⟩
end Go.Proofs.Ytpkfeepepbchlaa.Bl
namespace Go.Proofs.Ytpkfeepepbchlaa.Bl
open Go.RowKit Go.Maps Go.Proofs.YtpkfeepepbchlaaW.PrintWords Go.Proofs.YtpkfeepepbchlaaW.PrintLast Go.Proofs.YtpkfeepepbchlaaW.PrintMore Go.Proofs.Ytpkfeepepbchlaa.PK
set_option linter.unusedVariables false
set_option linter.unusedSimpArgs false
set_option maxRecDepth 20000 in
set_option maxHeartbeats 4000000 in
theorem Do_list (g b : Nat) (q : Int) (L : List Ent) (num : Int) (k : ByteArray) (A : Option Addr) (c : Nat) (t : List Int) (w : World) (h : Bl w g b q L) (hl : L.length ≤ 100000) (hK : Sb.okA 3 num k.size t.length = true) (hk : k.size ≤ 64) (ht : t.length ≤ 60000) (hc : t.length ≤ c) (hr : Bs.C w A t.length t) :
    Calls Try.prog 51 #[.pointer (some ⟨g, 0, none⟩), .agg #[.int .i64 3, .int .i64 num, .string k, .slice A t.length c]] w fun e w' => ∃ vb vn, e = .returned (.agg #[.int .i64 num, .int .i64 0, vb, vn]) ∧ Bs.R 5 w' w.heap.size (fun _ => True) vb [] ∧ Kd.string.R 9 w' w.heap.size (fun _ => True) vn (nmsE k L) ∧ Bl w' g b q L ∧ Below w.heap.size w w' := by
  have HR := Aside0.mk hr
  have HH := Aside0.mk h
  have B1 := Aside0.mk (below_alloc (below_alloc (Below.refl w.heap.size w) (.cells #[.int .i64 3, .int .i64 num, .string k, .slice A t.length c] 30)) (.cells #[.int .i64 0, .int .i64 0, .slice none 0 0, .slice none 0 0] 36))
  clear hr h
  obtain ⟨ns, hns⟩ : ∃ ns, nmsE k L = ns := ⟨_, rfl⟩
  rw [hns]
  have hf := (show (Sb.askB 3 num k t).2 = 0 by unfold Sb.askB; rw [hK]; rfl)
  go_enter Try.func51, Try.ntmps51
  go_wp2_with fail
  refine (Sb.PutAsk_calls 3 num k A t.length c t _ trivial trivial rfl hc (Kd.C_below HR.out B1.out)).mono ?_
  rintro e w1 ⟨u, rfl, _, hb1⟩
  have B2 := Aside0.mk (B1.out.trans (hb1.mono B1.out.size))
  have KA := Aside0.mk (blk_below (blk_alloc (blk_new w (.cells #[.int .i64 3, .int .i64 num, .string k, .slice A t.length c] 30)) (.cells #[.int .i64 0, .int .i64 0, .slice none 0 0, .slice none 0 0] 36)) hb1)
  have KR := Aside0.mk (show w1.heap[w.heap.size + 1]? = some (.cells #[.int .i64 0, .int .i64 0, .slice none 0 0, .slice none 0 0] 36 (0, 0)) from by have h := blk_below (blk_new (w.alloc (.cells #[.int .i64 3, .int .i64 num, .string k, .slice A t.length c] 30)) (.cells #[.int .i64 0, .int .i64 0, .slice none 0 0, .slice none 0 0] 36)) hb1; simpa using h)
  clear hb1
  rw [hf]
  clear hf
  have hlt : w.heap.size + 1 < w1.heap.size := blk_lt KR.out
  have HA := KA.out
  have a0 : (w1).cell? ⟨w.heap.size, 0, none⟩ = some (.int .i64 3) := (blk_cell (HA) 0).trans rfl
  have az0 := blk_frozen (HA) 0
  have a1 : (w1).cell? ⟨w.heap.size, 1, none⟩ = some (.int .i64 num) := (blk_cell (HA) 1).trans rfl
  have az1 := blk_frozen (HA) 1
  have a2 : (w1).cell? ⟨w.heap.size, 2, none⟩ = some (.string k) := (blk_cell (HA) 2).trans rfl
  have az2 := blk_frozen (HA) 2
  have a3 : (w1).cell? ⟨w.heap.size, 3, none⟩ = some (.slice A t.length c) := (blk_cell (HA) 3).trans rfl
  have az3 := blk_frozen (HA) 3
  clear HA
  have n1 : w1.heap.size ≠ w.heap.size := by omega
  have n2 : w.heap.size ≠ w1.heap.size := by omega
  have n3 : w1.heap.size ≠ w.heap.size + 1 := by omega
  have n4 : w.heap.size + 1 ≠ w1.heap.size := by omega
  have n5 : w.heap.size < w1.heap.size := by omega
  go_wp2_with fail
  have hDS := DS.start B2.out KA.out KR.out hlt ⟨blk_new w1 (.cells #[.int .i64 num, .int .i64 0, .slice none 0 0, .slice none 0 0] 36), below_alloc (Below.refl _ _) _⟩
  generalize w1.alloc (.cells #[.int .i64 num, .int .i64 0, .slice none 0 0, .slice none 0 0] 36) = W2 at hDS ⊢
  have DS2 := Aside0.mk hDS
  clear hDS KA KR B2 B1 a0 az0 a1 az1 a2 az2 a3 az3
  refine (Has_calls g b q L k _ (Bl.kept HH.out DS2.out.below) (by omega)).mono ?_
  rintro e w3 ⟨v, rfl, hR, hb3⟩
  obtain ⟨A1, c1, rfl, hc1, _⟩ := Kd.R_reads hR
  have DS3 := Aside0.mk (DS2.out.kept hb3)
  have HR3 := Aside0.mk (Kd.R_lower hR DS2.out.below.size)
  have BL3 := Aside0.mk (Bl.kept HH.out DS3.out.below)
  clear hR hb3
  have a0 : (w3).cell? ⟨w.heap.size, 0, none⟩ = some (.int .i64 3) := (blk_cell (DS3.out.ask) 0).trans rfl
  have az0 := blk_frozen (DS3.out.ask) 0
  have a1 : (w3).cell? ⟨w.heap.size, 1, none⟩ = some (.int .i64 num) := (blk_cell (DS3.out.ask) 1).trans rfl
  have az1 := blk_frozen (DS3.out.ask) 1
  have a2 : (w3).cell? ⟨w.heap.size, 2, none⟩ = some (.string k) := (blk_cell (DS3.out.ask) 2).trans rfl
  have az2 := blk_frozen (DS3.out.ask) 2
  have a3 : (w3).cell? ⟨w.heap.size, 3, none⟩ = some (.slice A t.length c) := (blk_cell (DS3.out.ask) 3).trans rfl
  have az3 := blk_frozen (DS3.out.ask) 3
  have p0 : (w3).cell? ⟨w1.heap.size, 0, none⟩ = some (.int .i64 num) := (blk_cell (DS3.out.out) 0).trans rfl
  have pz0 := blk_frozen (DS3.out.out) 0
  have p1 : (w3).cell? ⟨w1.heap.size, 1, none⟩ = some (.int .i64 0) := (blk_cell (DS3.out.out) 1).trans rfl
  have pz1 := blk_frozen (DS3.out.out) 1
  have p2 : (w3).cell? ⟨w1.heap.size, 2, none⟩ = some (.slice none 0 0) := (blk_cell (DS3.out.out) 2).trans rfl
  have pz2 := blk_frozen (DS3.out.out) 2
  have p3 : (w3).cell? ⟨w1.heap.size, 3, none⟩ = some (.slice none 0 0) := (blk_cell (DS3.out.out) 3).trans rfl
  have pz3 := blk_frozen (DS3.out.out) 3
  have r0 : (w3).cell? ⟨w.heap.size + 1, 0, none⟩ = some (.int .i64 0) := (blk_cell (DS3.out.res) 0).trans rfl
  have rz0 := blk_frozen (DS3.out.res) 0
  have r1 : (w3).cell? ⟨w.heap.size + 1, 1, none⟩ = some (.int .i64 0) := (blk_cell (DS3.out.res) 1).trans rfl
  have rz1 := blk_frozen (DS3.out.res) 1
  have r2 : (w3).cell? ⟨w.heap.size + 1, 2, none⟩ = some (.slice none 0 0) := (blk_cell (DS3.out.res) 2).trans rfl
  have rz2 := blk_frozen (DS3.out.res) 2
  have r3 : (w3).cell? ⟨w.heap.size + 1, 3, none⟩ = some (.slice none 0 0) := (blk_cell (DS3.out.res) 3).trans rfl
  have rz3 := blk_frozen (DS3.out.res) 3
  go_wp2_with fail
  refine (list_calls g b q L k w3 BL3.out hl).mono ?_
  rintro e w4 ⟨vn, rfl, hN, hb4⟩
  rw [hns] at hN
  obtain ⟨A2, c2, rfl, hc2, _⟩ := Kd.R_reads hN
  have DS4 := Aside0.mk (DS3.out.kept hb4)
  have HN4 := Aside0.mk (Kd.R_lower hN DS3.out.below.size)
  have BL4 := Aside0.mk (Bl.kept BL3.out hb4)
  clear hN hb4
  clear a0 az0 a1 az1 a2 az2 a3 az3 p0 pz0 p1 pz1 p2 pz2 p3 pz3 r0 rz0 r1 rz1 r2 rz2 r3 rz3
  have a0 : (w4).cell? ⟨w.heap.size, 0, none⟩ = some (.int .i64 3) := (blk_cell (DS4.out.ask) 0).trans rfl
  have az0 := blk_frozen (DS4.out.ask) 0
  have a1 : (w4).cell? ⟨w.heap.size, 1, none⟩ = some (.int .i64 num) := (blk_cell (DS4.out.ask) 1).trans rfl
  have az1 := blk_frozen (DS4.out.ask) 1
  have a2 : (w4).cell? ⟨w.heap.size, 2, none⟩ = some (.string k) := (blk_cell (DS4.out.ask) 2).trans rfl
  have az2 := blk_frozen (DS4.out.ask) 2
  have a3 : (w4).cell? ⟨w.heap.size, 3, none⟩ = some (.slice A t.length c) := (blk_cell (DS4.out.ask) 3).trans rfl
  have az3 := blk_frozen (DS4.out.ask) 3
  have p0 : (w4).cell? ⟨w1.heap.size, 0, none⟩ = some (.int .i64 num) := (blk_cell (DS4.out.out) 0).trans rfl
  have pz0 := blk_frozen (DS4.out.out) 0
  have p1 : (w4).cell? ⟨w1.heap.size, 1, none⟩ = some (.int .i64 0) := (blk_cell (DS4.out.out) 1).trans rfl
  have pz1 := blk_frozen (DS4.out.out) 1
  have p2 : (w4).cell? ⟨w1.heap.size, 2, none⟩ = some (.slice none 0 0) := (blk_cell (DS4.out.out) 2).trans rfl
  have pz2 := blk_frozen (DS4.out.out) 2
  have p3 : (w4).cell? ⟨w1.heap.size, 3, none⟩ = some (.slice none 0 0) := (blk_cell (DS4.out.out) 3).trans rfl
  have pz3 := blk_frozen (DS4.out.out) 3
  have r0 : (w4).cell? ⟨w.heap.size + 1, 0, none⟩ = some (.int .i64 0) := (blk_cell (DS4.out.res) 0).trans rfl
  have rz0 := blk_frozen (DS4.out.res) 0
  have r1 : (w4).cell? ⟨w.heap.size + 1, 1, none⟩ = some (.int .i64 0) := (blk_cell (DS4.out.res) 1).trans rfl
  have rz1 := blk_frozen (DS4.out.res) 1
  have r2 : (w4).cell? ⟨w.heap.size + 1, 2, none⟩ = some (.slice none 0 0) := (blk_cell (DS4.out.res) 2).trans rfl
  have rz2 := blk_frozen (DS4.out.res) 2
  have r3 : (w4).cell? ⟨w.heap.size + 1, 3, none⟩ = some (.slice none 0 0) := (blk_cell (DS4.out.res) 3).trans rfl
  have rz3 := blk_frozen (DS4.out.res) 3
  go_wp2_with fail
  have D5 := DS4.out.put 3 (.slice A2 ns.length c2) rfl
  refine bodyPost_ret (results_cell_row rfl _ _ (w.heap.size + 1) 36 _ (0, 0) _ rfl (fill4_res D5.res (.int .i64 num) (.int .i64 0) (.slice none 0 0) (.slice A2 ns.length c2)) Try.underlying36 rfl (by kernel_rfl)) rfl ?_
  obtain ⟨F1, F2, F3⟩ := fill4 D5.res (by omega) D5.below (.int .i64 num) (.int .i64 0) (.slice none 0 0) (.slice A2 ns.length c2)
  exact ⟨_, _, rfl, Kd.R_nil _ _ _ _ _, F2 _ _ (Kd.R_set HN4.out DS4.out.out (by decide) 3 _), fill4_bl D5.res (Bl.set BL4.out DS4.out.out (by decide) (by decide) 3 _) _ _ _ _, F3⟩
structure DT (w W : World) (p : Nat) (row : Option Nat) (cs : Array Value) : Prop where
  res : W.heap[w.heap.size + 1]? = some (.cells #[.int .i64 0, .int .i64 0, .slice none 0 0, .slice none 0 0] 36 (0, 0))
  out : W.heap[p]? = some (.cells cs 36 (0, 0))
  lt : w.heap.size + 1 < p
  grown : w.grownBy W row
theorem DS.turn {w W W' : World} {p b : Nat} {asks cs : Array Value} (h : DS w W p asks cs) (hg : W.grownBy W' (some b)) (hb : b < w.heap.size) : DT w W' p (some b) cs := by
  have hlt := h.lt
  exact ⟨(hg.block _ (blk_lt h.res) (fun e => by injection e; omega)).trans h.res, (hg.block _ (blk_lt h.out) (fun e => by injection e; omega)).trans h.out, h.lt, grown_after h.below hg⟩
theorem grown_set {w W : World} {row : Option Nat} {p : Nat} (h : w.grownBy W row) (hp : w.heap.size ≤ p) (i : Nat) (u : Value) : w.grownBy (W.setCell ⟨p, i, none⟩ u) row :=
  ⟨h.os, h.tape, h.output, by have := h.size; simpa [World.setCell] using this, fun j hj hne => (Below.heap_setCell W ⟨p, i, none⟩ u j (by show j ≠ p; omega)).trans (h.block j hj hne)⟩
theorem DT.put {w W : World} {p : Nat} {row : Option Nat} {cs cs' : Array Value} (h : DT w W p row cs) (i : Nat) (u : Value) (e : cs.setIfInBounds i u = cs') : DT w (W.setCell ⟨p, i, none⟩ u) p row cs' := by
  have hlt := h.lt
  exact ⟨blk_far h.res (by show w.heap.size + 1 ≠ p; omega) u, blk_put h.out i u e, h.lt, grown_set h.grown (by omega) i u⟩
set_option maxRecDepth 20000 in
set_option maxHeartbeats 4000000 in
theorem Do_put (g b : Nat) (q : Int) (L : List Ent) (num : Int) (k : ByteArray) (A : Option Addr) (c : Nat) (t : List Int) (w : World) (h : Bl w g b q L) (hl : L.length ≤ 100000) (hK : Sb.okA 1 num k.size t.length = true) (hk : k.size ≤ 64) (ht : t.length ≤ 60000) (hc : t.length ≤ c) (hr : Bs.C w A t.length t) (hq : 0 ≤ q ∧ q ≤ 9223372036854775807) :
    Calls Try.prog 51 #[.pointer (some ⟨g, 0, none⟩), .agg #[.int .i64 1, .int .i64 num, .string k, .slice A t.length c]] w fun e w' => ∃ vb vn code L', e = .returned (.agg #[.int .i64 num, .int .i64 code, vb, vn]) ∧ Bs.R 5 w' w.heap.size (fun _ => True) vb [] ∧ Kd.string.R 9 w' w.heap.size (fun _ => True) vn [] ∧ Bl w' g b q L' ∧ w.grownBy w' (some b) ∧
      ((q < sumE (offE k L) + k.size + t.length ∧ code = 2 ∧ L' = L) ∨ (sumE (offE k L) + k.size + t.length ≤ q ∧ code = 0 ∧ ∃ A c, L' = putE k (.slice A t.length c) t L)) := by
  have HR := Aside0.mk hr
  have HH := Aside0.mk h
  have B1 := Aside0.mk (below_alloc (below_alloc (Below.refl w.heap.size w) (.cells #[.int .i64 1, .int .i64 num, .string k, .slice A t.length c] 30)) (.cells #[.int .i64 0, .int .i64 0, .slice none 0 0, .slice none 0 0] 36))
  clear hr h
  have hf := (show (Sb.askB 1 num k t).2 = 0 by unfold Sb.askB; rw [hK]; rfl)
  go_enter Try.func51, Try.ntmps51
  go_wp2_with fail
  refine (Sb.PutAsk_calls 1 num k A t.length c t _ trivial trivial rfl hc (Kd.C_below HR.out B1.out)).mono ?_
  rintro e w1 ⟨u, rfl, _, hb1⟩
  have B2 := Aside0.mk (B1.out.trans (hb1.mono B1.out.size))
  have KA := Aside0.mk (blk_below (blk_alloc (blk_new w (.cells #[.int .i64 1, .int .i64 num, .string k, .slice A t.length c] 30)) (.cells #[.int .i64 0, .int .i64 0, .slice none 0 0, .slice none 0 0] 36)) hb1)
  have KR := Aside0.mk (show w1.heap[w.heap.size + 1]? = some (.cells #[.int .i64 0, .int .i64 0, .slice none 0 0, .slice none 0 0] 36 (0, 0)) from by have h := blk_below (blk_new (w.alloc (.cells #[.int .i64 1, .int .i64 num, .string k, .slice A t.length c] 30)) (.cells #[.int .i64 0, .int .i64 0, .slice none 0 0, .slice none 0 0] 36)) hb1; simpa using h)
  clear hb1
  rw [hf]
  clear hf
  have hlt : w.heap.size + 1 < w1.heap.size := blk_lt KR.out
  have HA := KA.out
  have a0 : (w1).cell? ⟨w.heap.size, 0, none⟩ = some (.int .i64 1) := (blk_cell (HA) 0).trans rfl
  have az0 := blk_frozen (HA) 0
  have a1 : (w1).cell? ⟨w.heap.size, 1, none⟩ = some (.int .i64 num) := (blk_cell (HA) 1).trans rfl
  have az1 := blk_frozen (HA) 1
  have a2 : (w1).cell? ⟨w.heap.size, 2, none⟩ = some (.string k) := (blk_cell (HA) 2).trans rfl
  have az2 := blk_frozen (HA) 2
  have a3 : (w1).cell? ⟨w.heap.size, 3, none⟩ = some (.slice A t.length c) := (blk_cell (HA) 3).trans rfl
  have az3 := blk_frozen (HA) 3
  clear HA
  have n1 : w1.heap.size ≠ w.heap.size := by omega
  have n2 : w.heap.size ≠ w1.heap.size := by omega
  have n3 : w1.heap.size ≠ w.heap.size + 1 := by omega
  have n4 : w.heap.size + 1 ≠ w1.heap.size := by omega
  have n5 : w.heap.size < w1.heap.size := by omega
  go_wp2_with fail
  have hDS := DS.start B2.out KA.out KR.out hlt ⟨blk_new w1 (.cells #[.int .i64 num, .int .i64 0, .slice none 0 0, .slice none 0 0] 36), below_alloc (Below.refl _ _) _⟩
  generalize w1.alloc (.cells #[.int .i64 num, .int .i64 0, .slice none 0 0, .slice none 0 0] 36) = W2 at hDS ⊢
  have DS2 := Aside0.mk hDS
  clear hDS KA KR B2 B1 a0 az0 a1 az1 a2 az2 a3 az3
  refine (Has_calls g b q L k _ (Bl.kept HH.out DS2.out.below) (by omega)).mono ?_
  rintro e w3 ⟨v, rfl, hR, hb3⟩
  obtain ⟨A1, c1, rfl, hc1, _⟩ := Kd.R_reads hR
  have DS3 := Aside0.mk (DS2.out.kept hb3)
  have HR3 := Aside0.mk (Kd.R_lower hR DS2.out.below.size)
  have BL3 := Aside0.mk (Bl.kept HH.out DS3.out.below)
  clear hR hb3
  have a0 : (w3).cell? ⟨w.heap.size, 0, none⟩ = some (.int .i64 1) := (blk_cell (DS3.out.ask) 0).trans rfl
  have az0 := blk_frozen (DS3.out.ask) 0
  have a1 : (w3).cell? ⟨w.heap.size, 1, none⟩ = some (.int .i64 num) := (blk_cell (DS3.out.ask) 1).trans rfl
  have az1 := blk_frozen (DS3.out.ask) 1
  have a2 : (w3).cell? ⟨w.heap.size, 2, none⟩ = some (.string k) := (blk_cell (DS3.out.ask) 2).trans rfl
  have az2 := blk_frozen (DS3.out.ask) 2
  have a3 : (w3).cell? ⟨w.heap.size, 3, none⟩ = some (.slice A t.length c) := (blk_cell (DS3.out.ask) 3).trans rfl
  have az3 := blk_frozen (DS3.out.ask) 3
  have p0 : (w3).cell? ⟨w1.heap.size, 0, none⟩ = some (.int .i64 num) := (blk_cell (DS3.out.out) 0).trans rfl
  have pz0 := blk_frozen (DS3.out.out) 0
  have p1 : (w3).cell? ⟨w1.heap.size, 1, none⟩ = some (.int .i64 0) := (blk_cell (DS3.out.out) 1).trans rfl
  have pz1 := blk_frozen (DS3.out.out) 1
  have p2 : (w3).cell? ⟨w1.heap.size, 2, none⟩ = some (.slice none 0 0) := (blk_cell (DS3.out.out) 2).trans rfl
  have pz2 := blk_frozen (DS3.out.out) 2
  have p3 : (w3).cell? ⟨w1.heap.size, 3, none⟩ = some (.slice none 0 0) := (blk_cell (DS3.out.out) 3).trans rfl
  have pz3 := blk_frozen (DS3.out.out) 3
  have r0 : (w3).cell? ⟨w.heap.size + 1, 0, none⟩ = some (.int .i64 0) := (blk_cell (DS3.out.res) 0).trans rfl
  have rz0 := blk_frozen (DS3.out.res) 0
  have r1 : (w3).cell? ⟨w.heap.size + 1, 1, none⟩ = some (.int .i64 0) := (blk_cell (DS3.out.res) 1).trans rfl
  have rz1 := blk_frozen (DS3.out.res) 1
  have r2 : (w3).cell? ⟨w.heap.size + 1, 2, none⟩ = some (.slice none 0 0) := (blk_cell (DS3.out.res) 2).trans rfl
  have rz2 := blk_frozen (DS3.out.res) 2
  have r3 : (w3).cell? ⟨w.heap.size + 1, 3, none⟩ = some (.slice none 0 0) := (blk_cell (DS3.out.res) 3).trans rfl
  have rz3 := blk_frozen (DS3.out.res) 3
  have hlb := HH.out.lt.2
  go_wp2_with fail
  refine (put_calls g b q L k A c t w3 BL3.out hl hk (by omega) hc (Kd.C_below HR.out DS3.out.below) hq).mono ?_
  rintro e w4 ⟨code, L', rfl, hB4, hg4, hres⟩
  have D4 := Aside0.mk (DS3.out.turn hg4 hlb)
  have BL4 := Aside0.mk hB4
  have HRES := Aside0.mk hres
  clear hB4 hg4 hres
  clear a0 az0 a1 az1 a2 az2 a3 az3 p0 pz0 p1 pz1 p2 pz2 p3 pz3 r0 rz0 r1 rz1 r2 rz2 r3 rz3
  have p0 : (w4).cell? ⟨w1.heap.size, 0, none⟩ = some (.int .i64 num) := (blk_cell (D4.out.out) 0).trans rfl
  have pz0 := blk_frozen (D4.out.out) 0
  have p1 : (w4).cell? ⟨w1.heap.size, 1, none⟩ = some (.int .i64 0) := (blk_cell (D4.out.out) 1).trans rfl
  have pz1 := blk_frozen (D4.out.out) 1
  have p2 : (w4).cell? ⟨w1.heap.size, 2, none⟩ = some (.slice none 0 0) := (blk_cell (D4.out.out) 2).trans rfl
  have pz2 := blk_frozen (D4.out.out) 2
  have p3 : (w4).cell? ⟨w1.heap.size, 3, none⟩ = some (.slice none 0 0) := (blk_cell (D4.out.out) 3).trans rfl
  have pz3 := blk_frozen (D4.out.out) 3
  have r0 : (w4).cell? ⟨w.heap.size + 1, 0, none⟩ = some (.int .i64 0) := (blk_cell (D4.out.res) 0).trans rfl
  have rz0 := blk_frozen (D4.out.res) 0
  have r1 : (w4).cell? ⟨w.heap.size + 1, 1, none⟩ = some (.int .i64 0) := (blk_cell (D4.out.res) 1).trans rfl
  have rz1 := blk_frozen (D4.out.res) 1
  have r2 : (w4).cell? ⟨w.heap.size + 1, 2, none⟩ = some (.slice none 0 0) := (blk_cell (D4.out.res) 2).trans rfl
  have rz2 := blk_frozen (D4.out.res) 2
  have r3 : (w4).cell? ⟨w.heap.size + 1, 3, none⟩ = some (.slice none 0 0) := (blk_cell (D4.out.res) 3).trans rfl
  have rz3 := blk_frozen (D4.out.res) 3
  go_wp2_with fail
  have D5 := D4.out.put 1 (.int .i64 code) rfl
  refine bodyPost_ret (results_cell_row rfl _ _ (w.heap.size + 1) 36 _ (0, 0) _ rfl (fill4_res D5.res (.int .i64 num) (.int .i64 code) (.slice none 0 0) (.slice none 0 0)) Try.underlying36 rfl (by kernel_rfl)) rfl ?_
  exact ⟨_, _, _, _, rfl, Kd.R_nil _ _ _ _ _, Kd.R_nil _ _ _ _ _, fill4_bl D5.res (Bl.set BL4.out D4.out.out (by decide) (by decide) 1 _) _ _ _ _, fill4_grown D5.grown (by omega) _ _ _ _, HRES.out⟩
end Go.Proofs.Ytpkfeepepbchlaa.Bl
namespace Go.Proofs.Ytpkfeepepbchlaa.Bl
open Go.RowKit Go.Maps Go.Proofs.YtpkfeepepbchlaaW.PrintWords Go.Proofs.YtpkfeepepbchlaaW.PrintLast Go.Proofs.YtpkfeepepbchlaaW.PrintMore Go.Proofs.Ytpkfeepepbchlaa.PK
set_option linter.unusedVariables false
set_option linter.unusedSimpArgs false
set_option maxRecDepth 20000 in
set_option maxHeartbeats 4000000 in
theorem Do_drop (g b : Nat) (q : Int) (L : List Ent) (num : Int) (k : ByteArray) (A : Option Addr) (c : Nat) (t : List Int) (w : World) (h : Bl w g b q L) (hl : L.length ≤ 100000) (hK : Sb.okA 4 num k.size t.length = true) (hk : k.size ≤ 64) (ht : t.length ≤ 60000) (hc : t.length ≤ c) (hr : Bs.C w A t.length t) :
    Calls Try.prog 51 #[.pointer (some ⟨g, 0, none⟩), .agg #[.int .i64 4, .int .i64 num, .string k, .slice A t.length c]] w fun e w' => ∃ vb vn, e = .returned (.agg #[.int .i64 num, .int .i64 (if (findE k L).isSome then 0 else 1), vb, vn]) ∧ Bs.R 5 w' w.heap.size (fun _ => True) vb [] ∧ Kd.string.R 9 w' w.heap.size (fun _ => True) vn [] ∧ Bl w' g b q (offE k L) ∧ w.grownBy w' (some b) := by
  have HR := Aside0.mk hr
  have HH := Aside0.mk h
  have B1 := Aside0.mk (below_alloc (below_alloc (Below.refl w.heap.size w) (.cells #[.int .i64 4, .int .i64 num, .string k, .slice A t.length c] 30)) (.cells #[.int .i64 0, .int .i64 0, .slice none 0 0, .slice none 0 0] 36))
  clear hr h
  cases hfd : (findE k L).isSome with
  | true =>
    rw [if_pos rfl]
    have hf := (show (Sb.askB 4 num k t).2 = 0 by unfold Sb.askB; rw [hK]; rfl)
    go_enter Try.func51, Try.ntmps51
    go_wp2_with fail
    refine (Sb.PutAsk_calls 4 num k A t.length c t _ trivial trivial rfl hc (Kd.C_below HR.out B1.out)).mono ?_
    rintro e w1 ⟨u, rfl, _, hb1⟩
    have B2 := Aside0.mk (B1.out.trans (hb1.mono B1.out.size))
    have KA := Aside0.mk (blk_below (blk_alloc (blk_new w (.cells #[.int .i64 4, .int .i64 num, .string k, .slice A t.length c] 30)) (.cells #[.int .i64 0, .int .i64 0, .slice none 0 0, .slice none 0 0] 36)) hb1)
    have KR := Aside0.mk (show w1.heap[w.heap.size + 1]? = some (.cells #[.int .i64 0, .int .i64 0, .slice none 0 0, .slice none 0 0] 36 (0, 0)) from by have h := blk_below (blk_new (w.alloc (.cells #[.int .i64 4, .int .i64 num, .string k, .slice A t.length c] 30)) (.cells #[.int .i64 0, .int .i64 0, .slice none 0 0, .slice none 0 0] 36)) hb1; simpa using h)
    clear hb1
    rw [hf]
    clear hf
    have hlt : w.heap.size + 1 < w1.heap.size := blk_lt KR.out
    have HA := KA.out
    have a0 : (w1).cell? ⟨w.heap.size, 0, none⟩ = some (.int .i64 4) := (blk_cell (HA) 0).trans rfl
    have az0 := blk_frozen (HA) 0
    have a1 : (w1).cell? ⟨w.heap.size, 1, none⟩ = some (.int .i64 num) := (blk_cell (HA) 1).trans rfl
    have az1 := blk_frozen (HA) 1
    have a2 : (w1).cell? ⟨w.heap.size, 2, none⟩ = some (.string k) := (blk_cell (HA) 2).trans rfl
    have az2 := blk_frozen (HA) 2
    have a3 : (w1).cell? ⟨w.heap.size, 3, none⟩ = some (.slice A t.length c) := (blk_cell (HA) 3).trans rfl
    have az3 := blk_frozen (HA) 3
    clear HA
    have n1 : w1.heap.size ≠ w.heap.size := by omega
    have n2 : w.heap.size ≠ w1.heap.size := by omega
    have n3 : w1.heap.size ≠ w.heap.size + 1 := by omega
    have n4 : w.heap.size + 1 ≠ w1.heap.size := by omega
    have n5 : w.heap.size < w1.heap.size := by omega
    go_wp2_with fail
    have hDS := DS.start B2.out KA.out KR.out hlt ⟨blk_new w1 (.cells #[.int .i64 num, .int .i64 0, .slice none 0 0, .slice none 0 0] 36), below_alloc (Below.refl _ _) _⟩
    generalize w1.alloc (.cells #[.int .i64 num, .int .i64 0, .slice none 0 0, .slice none 0 0] 36) = W2 at hDS ⊢
    have DS2 := Aside0.mk hDS
    clear hDS KA KR B2 B1 a0 az0 a1 az1 a2 az2 a3 az3
    refine (Has_calls g b q L k _ (Bl.kept HH.out DS2.out.below) (by omega)).mono ?_
    rintro e w3 ⟨v, rfl, hR, hb3⟩
    rw [hfd]
    obtain ⟨A1, c1, rfl, hc1, _⟩ := Kd.R_reads hR
    have DS3 := Aside0.mk (DS2.out.kept hb3)
    have HR3 := Aside0.mk (Kd.R_lower hR DS2.out.below.size)
    have BL3 := Aside0.mk (Bl.kept HH.out DS3.out.below)
    clear hR hb3
    have a0 : (w3).cell? ⟨w.heap.size, 0, none⟩ = some (.int .i64 4) := (blk_cell (DS3.out.ask) 0).trans rfl
    have az0 := blk_frozen (DS3.out.ask) 0
    have a1 : (w3).cell? ⟨w.heap.size, 1, none⟩ = some (.int .i64 num) := (blk_cell (DS3.out.ask) 1).trans rfl
    have az1 := blk_frozen (DS3.out.ask) 1
    have a2 : (w3).cell? ⟨w.heap.size, 2, none⟩ = some (.string k) := (blk_cell (DS3.out.ask) 2).trans rfl
    have az2 := blk_frozen (DS3.out.ask) 2
    have a3 : (w3).cell? ⟨w.heap.size, 3, none⟩ = some (.slice A t.length c) := (blk_cell (DS3.out.ask) 3).trans rfl
    have az3 := blk_frozen (DS3.out.ask) 3
    have p0 : (w3).cell? ⟨w1.heap.size, 0, none⟩ = some (.int .i64 num) := (blk_cell (DS3.out.out) 0).trans rfl
    have pz0 := blk_frozen (DS3.out.out) 0
    have p1 : (w3).cell? ⟨w1.heap.size, 1, none⟩ = some (.int .i64 0) := (blk_cell (DS3.out.out) 1).trans rfl
    have pz1 := blk_frozen (DS3.out.out) 1
    have p2 : (w3).cell? ⟨w1.heap.size, 2, none⟩ = some (.slice none 0 0) := (blk_cell (DS3.out.out) 2).trans rfl
    have pz2 := blk_frozen (DS3.out.out) 2
    have p3 : (w3).cell? ⟨w1.heap.size, 3, none⟩ = some (.slice none 0 0) := (blk_cell (DS3.out.out) 3).trans rfl
    have pz3 := blk_frozen (DS3.out.out) 3
    have r0 : (w3).cell? ⟨w.heap.size + 1, 0, none⟩ = some (.int .i64 0) := (blk_cell (DS3.out.res) 0).trans rfl
    have rz0 := blk_frozen (DS3.out.res) 0
    have r1 : (w3).cell? ⟨w.heap.size + 1, 1, none⟩ = some (.int .i64 0) := (blk_cell (DS3.out.res) 1).trans rfl
    have rz1 := blk_frozen (DS3.out.res) 1
    have r2 : (w3).cell? ⟨w.heap.size + 1, 2, none⟩ = some (.slice none 0 0) := (blk_cell (DS3.out.res) 2).trans rfl
    have rz2 := blk_frozen (DS3.out.res) 2
    have r3 : (w3).cell? ⟨w.heap.size + 1, 3, none⟩ = some (.slice none 0 0) := (blk_cell (DS3.out.res) 3).trans rfl
    have rz3 := blk_frozen (DS3.out.res) 3
    have hlb := HH.out.lt.2
    go_wp2_with fail
    obtain ⟨w4, hrun, hm4, ht4⟩ := (Bl.kept BL3.out ((Below.refl w3.heap.size w3).drew)).map.drop law Try.underlying66 (key_of k (by omega)) 0
    have hg4 := ht4.grown
    have BL4 := Aside0.mk (Bl.drop k (Bl.kept BL3.out ((Below.refl w3.heap.size w3).drew)) hg4 hm4)
    have D4 := Aside0.mk ((DS3.out.kept ((Below.refl w3.heap.size w3).drew)).turn hg4 hlb)
    clear ht4 hm4
    refine wp_region_noPanic ?_
    refine wp_region_held_drew (S := fun W => (∃ L', Bl W g b q L') ∧ W.heap[w.heap.size]? = some (.cells #[.int .i64 4, .int .i64 num, .string k, .slice A t.length c] 30 (0, 0))) (by kernel_rfl) (⟨⟨_, Bl.kept BL3.out ((Below.refl _ _).drew)⟩, DS3.out.ask⟩) (fun hHeld => ?_)
    refine wpAnyH_take (i := 0) (oi := { dst := some 56, op := _, type := _, pos := _, after := _, guard := _ }) (v := ?_) rfl (by kernel_rfl) (by kernel_rfl) (by kernel_rfl) (fun _ _ _ h => h) (Or.inl ⟨by rfl, ?_⟩) hHeld ?_
    rotate_left
    · (intro w hSw; go_simp) <;> (with_reducible rfl)
    try simp only [Act.put, List.setIfInBounds_toArray, List.set_cons_zero, List.set_cons_succ]
    refine wpAnyH_take (i := 1) (oi := { dst := some 57, op := _, type := _, pos := _, after := _, guard := _ }) (v := ?_) rfl (by kernel_rfl) (by kernel_rfl) (by kernel_rfl) (fun _ _ _ h => h) (Or.inl ⟨by rfl, ?_⟩) hHeld ?_
    rotate_left
    · (intro w hSw; go_simp) <;> (with_reducible rfl)
    try simp only [Act.put, List.setIfInBounds_toArray, List.set_cons_zero, List.set_cons_succ]
    refine wpAnyH_take (i := 2) (oi := { dst := some 58, op := _, type := _, pos := _, after := _, guard := _ }) (v := ?_) rfl (by kernel_rfl) (by kernel_rfl) (by kernel_rfl) (fun _ _ _ h => h) (Or.inl ⟨by rfl, ?_⟩) hHeld ?_
    rotate_left
    · (intro w hSw; go_simp) <;> (with_reducible rfl)
    try simp only [Act.put, List.setIfInBounds_toArray, List.set_cons_zero, List.set_cons_succ]
    refine wpAnyH_take (i := 3) (oi := { dst := some 59, op := _, type := _, pos := _, after := _, guard := _ }) (v := ?_) rfl (by kernel_rfl) (by kernel_rfl) (by kernel_rfl) (fun _ _ _ h => h) (Or.inl ⟨by rfl, ?_⟩) hHeld ?_
    rotate_left
    · (intro w hSw; have c := (show w.cell? ⟨g, 1, none⟩ = some (.map (some b)) from by obtain ⟨⟨_, h⟩, _⟩ := hSw; exact (blk_cell h.blk 1).trans rfl); go_simp) <;> (with_reducible rfl)
    try simp only [Act.put, List.setIfInBounds_toArray, List.set_cons_zero, List.set_cons_succ]
    refine wpAnyH_take (i := 4) (oi := { dst := some 60, op := _, type := _, pos := _, after := _, guard := _ }) (v := ?_) rfl (by kernel_rfl) (by kernel_rfl) (by kernel_rfl) (fun _ _ _ h => h) (Or.inl ⟨by rfl, ?_⟩) hHeld ?_
    rotate_left
    · (intro w hSw; go_simp) <;> (with_reducible rfl)
    try simp only [Act.put, List.setIfInBounds_toArray, List.set_cons_zero, List.set_cons_succ]
    refine wpAnyH_take (i := 5) (oi := { dst := some 61, op := _, type := _, pos := _, after := _, guard := _ }) (v := ?_) rfl (by kernel_rfl) (by kernel_rfl) (by kernel_rfl) (fun _ _ _ h => h) (Or.inl ⟨by rfl, ?_⟩) hHeld ?_
    rotate_left
    · (intro W hSw; have c := (show W.cell? ⟨w.heap.size, 2, none⟩ = some (.string k) from (blk_cell hSw.2 2).trans rfl); go_simp) <;> (with_reducible rfl)
    try simp only [Act.put, List.setIfInBounds_toArray, List.set_cons_zero, List.set_cons_succ]
    refine wpAnyH_ready (rs := [6]) (by kernel_rfl) (by simp) (AllReadyH.cons (o := { dst := none, op := _, type := _, pos := _, after := _, guard := _ }) rfl (fun K hK => ?_) AllReadyH.nil)
    go_simp
    refine hK.out _ _ (⟨⟨_, BL4.out⟩, (hg4.block _ (blk_lt DS3.out.ask) (fun e => by injection e; omega)).trans DS3.out.ask⟩) (fun hHeld2 => ?_)
    clear hK K hHeld
    have hHeld := hHeld2
    clear hHeld2
    try simp only [Act.put, List.setIfInBounds_toArray, List.set_cons_zero, List.set_cons_succ]
    refine wpAnyH_done (by kernel_rfl) ?_ _
    refine NoPanic.normal ?_
    clear hrun hg4
    clear a0 az0 a1 az1 a2 az2 a3 az3 p0 pz0 p1 pz1 p2 pz2 p3 pz3 r0 rz0 r1 rz1 r2 rz2 r3 rz3
    have p0 : (w4).cell? ⟨w1.heap.size, 0, none⟩ = some (.int .i64 num) := (blk_cell (D4.out.out) 0).trans rfl
    have pz0 := blk_frozen (D4.out.out) 0
    have p1 : (w4).cell? ⟨w1.heap.size, 1, none⟩ = some (.int .i64 0) := (blk_cell (D4.out.out) 1).trans rfl
    have pz1 := blk_frozen (D4.out.out) 1
    have p2 : (w4).cell? ⟨w1.heap.size, 2, none⟩ = some (.slice none 0 0) := (blk_cell (D4.out.out) 2).trans rfl
    have pz2 := blk_frozen (D4.out.out) 2
    have p3 : (w4).cell? ⟨w1.heap.size, 3, none⟩ = some (.slice none 0 0) := (blk_cell (D4.out.out) 3).trans rfl
    have pz3 := blk_frozen (D4.out.out) 3
    have r0 : (w4).cell? ⟨w.heap.size + 1, 0, none⟩ = some (.int .i64 0) := (blk_cell (D4.out.res) 0).trans rfl
    have rz0 := blk_frozen (D4.out.res) 0
    have r1 : (w4).cell? ⟨w.heap.size + 1, 1, none⟩ = some (.int .i64 0) := (blk_cell (D4.out.res) 1).trans rfl
    have rz1 := blk_frozen (D4.out.res) 1
    have r2 : (w4).cell? ⟨w.heap.size + 1, 2, none⟩ = some (.slice none 0 0) := (blk_cell (D4.out.res) 2).trans rfl
    have rz2 := blk_frozen (D4.out.res) 2
    have r3 : (w4).cell? ⟨w.heap.size + 1, 3, none⟩ = some (.slice none 0 0) := (blk_cell (D4.out.res) 3).trans rfl
    have rz3 := blk_frozen (D4.out.res) 3
    go_wp2_with fail
    have D5 := D4.out.put 2 (.slice none 0 0) rfl
    refine bodyPost_ret (results_cell_row rfl _ _ (w.heap.size + 1) 36 _ (0, 0) _ rfl (fill4_res D5.res (.int .i64 num) (.int .i64 0) (.slice none 0 0) (.slice none 0 0)) Try.underlying36 rfl (by kernel_rfl)) rfl ?_
    exact ⟨_, _, rfl, Kd.R_nil _ _ _ _ _, Kd.R_nil _ _ _ _ _, fill4_bl D5.res (Bl.set BL4.out D4.out.out (by decide) (by decide) 2 _) _ _ _ _, fill4_grown D5.grown (by omega) _ _ _ _⟩
  | false =>
    rw [if_neg (by simp)]
    have hf := (show (Sb.askB 4 num k t).2 = 0 by unfold Sb.askB; rw [hK]; rfl)
    go_enter Try.func51, Try.ntmps51
    go_wp2_with fail
    refine (Sb.PutAsk_calls 4 num k A t.length c t _ trivial trivial rfl hc (Kd.C_below HR.out B1.out)).mono ?_
    rintro e w1 ⟨u, rfl, _, hb1⟩
    have B2 := Aside0.mk (B1.out.trans (hb1.mono B1.out.size))
    have KA := Aside0.mk (blk_below (blk_alloc (blk_new w (.cells #[.int .i64 4, .int .i64 num, .string k, .slice A t.length c] 30)) (.cells #[.int .i64 0, .int .i64 0, .slice none 0 0, .slice none 0 0] 36)) hb1)
    have KR := Aside0.mk (show w1.heap[w.heap.size + 1]? = some (.cells #[.int .i64 0, .int .i64 0, .slice none 0 0, .slice none 0 0] 36 (0, 0)) from by have h := blk_below (blk_new (w.alloc (.cells #[.int .i64 4, .int .i64 num, .string k, .slice A t.length c] 30)) (.cells #[.int .i64 0, .int .i64 0, .slice none 0 0, .slice none 0 0] 36)) hb1; simpa using h)
    clear hb1
    rw [hf]
    clear hf
    have hlt : w.heap.size + 1 < w1.heap.size := blk_lt KR.out
    have HA := KA.out
    have a0 : (w1).cell? ⟨w.heap.size, 0, none⟩ = some (.int .i64 4) := (blk_cell (HA) 0).trans rfl
    have az0 := blk_frozen (HA) 0
    have a1 : (w1).cell? ⟨w.heap.size, 1, none⟩ = some (.int .i64 num) := (blk_cell (HA) 1).trans rfl
    have az1 := blk_frozen (HA) 1
    have a2 : (w1).cell? ⟨w.heap.size, 2, none⟩ = some (.string k) := (blk_cell (HA) 2).trans rfl
    have az2 := blk_frozen (HA) 2
    have a3 : (w1).cell? ⟨w.heap.size, 3, none⟩ = some (.slice A t.length c) := (blk_cell (HA) 3).trans rfl
    have az3 := blk_frozen (HA) 3
    clear HA
    have n1 : w1.heap.size ≠ w.heap.size := by omega
    have n2 : w.heap.size ≠ w1.heap.size := by omega
    have n3 : w1.heap.size ≠ w.heap.size + 1 := by omega
    have n4 : w.heap.size + 1 ≠ w1.heap.size := by omega
    have n5 : w.heap.size < w1.heap.size := by omega
    go_wp2_with fail
    have hDS := DS.start B2.out KA.out KR.out hlt ⟨blk_new w1 (.cells #[.int .i64 num, .int .i64 0, .slice none 0 0, .slice none 0 0] 36), below_alloc (Below.refl _ _) _⟩
    generalize w1.alloc (.cells #[.int .i64 num, .int .i64 0, .slice none 0 0, .slice none 0 0] 36) = W2 at hDS ⊢
    have DS2 := Aside0.mk hDS
    clear hDS KA KR B2 B1 a0 az0 a1 az1 a2 az2 a3 az3
    refine (Has_calls g b q L k _ (Bl.kept HH.out DS2.out.below) (by omega)).mono ?_
    rintro e w3 ⟨v, rfl, hR, hb3⟩
    rw [hfd]
    obtain ⟨A1, c1, rfl, hc1, _⟩ := Kd.R_reads hR
    have DS3 := Aside0.mk (DS2.out.kept hb3)
    have HR3 := Aside0.mk (Kd.R_lower hR DS2.out.below.size)
    have BL3 := Aside0.mk (Bl.kept HH.out DS3.out.below)
    clear hR hb3
    have a0 : (w3).cell? ⟨w.heap.size, 0, none⟩ = some (.int .i64 4) := (blk_cell (DS3.out.ask) 0).trans rfl
    have az0 := blk_frozen (DS3.out.ask) 0
    have a1 : (w3).cell? ⟨w.heap.size, 1, none⟩ = some (.int .i64 num) := (blk_cell (DS3.out.ask) 1).trans rfl
    have az1 := blk_frozen (DS3.out.ask) 1
    have a2 : (w3).cell? ⟨w.heap.size, 2, none⟩ = some (.string k) := (blk_cell (DS3.out.ask) 2).trans rfl
    have az2 := blk_frozen (DS3.out.ask) 2
    have a3 : (w3).cell? ⟨w.heap.size, 3, none⟩ = some (.slice A t.length c) := (blk_cell (DS3.out.ask) 3).trans rfl
    have az3 := blk_frozen (DS3.out.ask) 3
    have p0 : (w3).cell? ⟨w1.heap.size, 0, none⟩ = some (.int .i64 num) := (blk_cell (DS3.out.out) 0).trans rfl
    have pz0 := blk_frozen (DS3.out.out) 0
    have p1 : (w3).cell? ⟨w1.heap.size, 1, none⟩ = some (.int .i64 0) := (blk_cell (DS3.out.out) 1).trans rfl
    have pz1 := blk_frozen (DS3.out.out) 1
    have p2 : (w3).cell? ⟨w1.heap.size, 2, none⟩ = some (.slice none 0 0) := (blk_cell (DS3.out.out) 2).trans rfl
    have pz2 := blk_frozen (DS3.out.out) 2
    have p3 : (w3).cell? ⟨w1.heap.size, 3, none⟩ = some (.slice none 0 0) := (blk_cell (DS3.out.out) 3).trans rfl
    have pz3 := blk_frozen (DS3.out.out) 3
    have r0 : (w3).cell? ⟨w.heap.size + 1, 0, none⟩ = some (.int .i64 0) := (blk_cell (DS3.out.res) 0).trans rfl
    have rz0 := blk_frozen (DS3.out.res) 0
    have r1 : (w3).cell? ⟨w.heap.size + 1, 1, none⟩ = some (.int .i64 0) := (blk_cell (DS3.out.res) 1).trans rfl
    have rz1 := blk_frozen (DS3.out.res) 1
    have r2 : (w3).cell? ⟨w.heap.size + 1, 2, none⟩ = some (.slice none 0 0) := (blk_cell (DS3.out.res) 2).trans rfl
    have rz2 := blk_frozen (DS3.out.res) 2
    have r3 : (w3).cell? ⟨w.heap.size + 1, 3, none⟩ = some (.slice none 0 0) := (blk_cell (DS3.out.res) 3).trans rfl
    have rz3 := blk_frozen (DS3.out.res) 3
    have hlb := HH.out.lt.2
    go_wp2_with fail
    obtain ⟨w4, hrun, hm4, ht4⟩ := (Bl.kept BL3.out ((Below.refl w3.heap.size w3).drew)).map.drop law Try.underlying66 (key_of k (by omega)) 0
    have hg4 := ht4.grown
    have BL4 := Aside0.mk (Bl.drop k (Bl.kept BL3.out ((Below.refl w3.heap.size w3).drew)) hg4 hm4)
    have D4 := Aside0.mk ((DS3.out.kept ((Below.refl w3.heap.size w3).drew)).turn hg4 hlb)
    clear ht4 hm4
    refine wp_region_noPanic ?_
    refine wp_region_held_drew (S := fun W => (∃ L', Bl W g b q L') ∧ W.heap[w.heap.size]? = some (.cells #[.int .i64 4, .int .i64 num, .string k, .slice A t.length c] 30 (0, 0))) (by kernel_rfl) (⟨⟨_, Bl.kept BL3.out ((Below.refl _ _).drew)⟩, DS3.out.ask⟩) (fun hHeld => ?_)
    refine wpAnyH_take (i := 0) (oi := { dst := some 56, op := _, type := _, pos := _, after := _, guard := _ }) (v := ?_) rfl (by kernel_rfl) (by kernel_rfl) (by kernel_rfl) (fun _ _ _ h => h) (Or.inl ⟨by rfl, ?_⟩) hHeld ?_
    rotate_left
    · (intro w hSw; go_simp) <;> (with_reducible rfl)
    try simp only [Act.put, List.setIfInBounds_toArray, List.set_cons_zero, List.set_cons_succ]
    refine wpAnyH_take (i := 1) (oi := { dst := some 57, op := _, type := _, pos := _, after := _, guard := _ }) (v := ?_) rfl (by kernel_rfl) (by kernel_rfl) (by kernel_rfl) (fun _ _ _ h => h) (Or.inl ⟨by rfl, ?_⟩) hHeld ?_
    rotate_left
    · (intro w hSw; go_simp) <;> (with_reducible rfl)
    try simp only [Act.put, List.setIfInBounds_toArray, List.set_cons_zero, List.set_cons_succ]
    refine wpAnyH_take (i := 2) (oi := { dst := some 58, op := _, type := _, pos := _, after := _, guard := _ }) (v := ?_) rfl (by kernel_rfl) (by kernel_rfl) (by kernel_rfl) (fun _ _ _ h => h) (Or.inl ⟨by rfl, ?_⟩) hHeld ?_
    rotate_left
    · (intro w hSw; go_simp) <;> (with_reducible rfl)
    try simp only [Act.put, List.setIfInBounds_toArray, List.set_cons_zero, List.set_cons_succ]
    refine wpAnyH_take (i := 3) (oi := { dst := some 59, op := _, type := _, pos := _, after := _, guard := _ }) (v := ?_) rfl (by kernel_rfl) (by kernel_rfl) (by kernel_rfl) (fun _ _ _ h => h) (Or.inl ⟨by rfl, ?_⟩) hHeld ?_
    rotate_left
    · (intro w hSw; have c := (show w.cell? ⟨g, 1, none⟩ = some (.map (some b)) from by obtain ⟨⟨_, h⟩, _⟩ := hSw; exact (blk_cell h.blk 1).trans rfl); go_simp) <;> (with_reducible rfl)
    try simp only [Act.put, List.setIfInBounds_toArray, List.set_cons_zero, List.set_cons_succ]
    refine wpAnyH_take (i := 4) (oi := { dst := some 60, op := _, type := _, pos := _, after := _, guard := _ }) (v := ?_) rfl (by kernel_rfl) (by kernel_rfl) (by kernel_rfl) (fun _ _ _ h => h) (Or.inl ⟨by rfl, ?_⟩) hHeld ?_
    rotate_left
    · (intro w hSw; go_simp) <;> (with_reducible rfl)
    try simp only [Act.put, List.setIfInBounds_toArray, List.set_cons_zero, List.set_cons_succ]
    refine wpAnyH_take (i := 5) (oi := { dst := some 61, op := _, type := _, pos := _, after := _, guard := _ }) (v := ?_) rfl (by kernel_rfl) (by kernel_rfl) (by kernel_rfl) (fun _ _ _ h => h) (Or.inl ⟨by rfl, ?_⟩) hHeld ?_
    rotate_left
    · (intro W hSw; have c := (show W.cell? ⟨w.heap.size, 2, none⟩ = some (.string k) from (blk_cell hSw.2 2).trans rfl); go_simp) <;> (with_reducible rfl)
    try simp only [Act.put, List.setIfInBounds_toArray, List.set_cons_zero, List.set_cons_succ]
    refine wpAnyH_ready (rs := [6]) (by kernel_rfl) (by simp) (AllReadyH.cons (o := { dst := none, op := _, type := _, pos := _, after := _, guard := _ }) rfl (fun K hK => ?_) AllReadyH.nil)
    go_simp
    refine hK.out _ _ (⟨⟨_, BL4.out⟩, (hg4.block _ (blk_lt DS3.out.ask) (fun e => by injection e; omega)).trans DS3.out.ask⟩) (fun hHeld2 => ?_)
    clear hK K hHeld
    have hHeld := hHeld2
    clear hHeld2
    try simp only [Act.put, List.setIfInBounds_toArray, List.set_cons_zero, List.set_cons_succ]
    refine wpAnyH_done (by kernel_rfl) ?_ _
    refine NoPanic.normal ?_
    clear hrun hg4
    clear a0 az0 a1 az1 a2 az2 a3 az3 p0 pz0 p1 pz1 p2 pz2 p3 pz3 r0 rz0 r1 rz1 r2 rz2 r3 rz3
    have p0 : (w4).cell? ⟨w1.heap.size, 0, none⟩ = some (.int .i64 num) := (blk_cell (D4.out.out) 0).trans rfl
    have pz0 := blk_frozen (D4.out.out) 0
    have p1 : (w4).cell? ⟨w1.heap.size, 1, none⟩ = some (.int .i64 0) := (blk_cell (D4.out.out) 1).trans rfl
    have pz1 := blk_frozen (D4.out.out) 1
    have p2 : (w4).cell? ⟨w1.heap.size, 2, none⟩ = some (.slice none 0 0) := (blk_cell (D4.out.out) 2).trans rfl
    have pz2 := blk_frozen (D4.out.out) 2
    have p3 : (w4).cell? ⟨w1.heap.size, 3, none⟩ = some (.slice none 0 0) := (blk_cell (D4.out.out) 3).trans rfl
    have pz3 := blk_frozen (D4.out.out) 3
    have r0 : (w4).cell? ⟨w.heap.size + 1, 0, none⟩ = some (.int .i64 0) := (blk_cell (D4.out.res) 0).trans rfl
    have rz0 := blk_frozen (D4.out.res) 0
    have r1 : (w4).cell? ⟨w.heap.size + 1, 1, none⟩ = some (.int .i64 0) := (blk_cell (D4.out.res) 1).trans rfl
    have rz1 := blk_frozen (D4.out.res) 1
    have r2 : (w4).cell? ⟨w.heap.size + 1, 2, none⟩ = some (.slice none 0 0) := (blk_cell (D4.out.res) 2).trans rfl
    have rz2 := blk_frozen (D4.out.res) 2
    have r3 : (w4).cell? ⟨w.heap.size + 1, 3, none⟩ = some (.slice none 0 0) := (blk_cell (D4.out.res) 3).trans rfl
    have rz3 := blk_frozen (D4.out.res) 3
    go_wp2_with fail
    have D5 := (D4.out.put 2 (.slice none 0 0) rfl).put 1 (.int .i64 1) rfl
    refine bodyPost_ret (results_cell_row rfl _ _ (w.heap.size + 1) 36 _ (0, 0) _ rfl (fill4_res D5.res (.int .i64 num) (.int .i64 1) (.slice none 0 0) (.slice none 0 0)) Try.underlying36 rfl (by kernel_rfl)) rfl ?_
    exact ⟨_, _, rfl, Kd.R_nil _ _ _ _ _, Kd.R_nil _ _ _ _ _, fill4_bl D5.res (Bl.set (Bl.set BL4.out D4.out.out (by decide) (by decide) 2 _) (D4.out.put 2 (.slice none 0 0) rfl).out (by decide) (by decide) 1 _) _ _ _ _, fill4_grown D5.grown (by omega) _ _ _ _⟩
end Go.Proofs.Ytpkfeepepbchlaa.Bl
