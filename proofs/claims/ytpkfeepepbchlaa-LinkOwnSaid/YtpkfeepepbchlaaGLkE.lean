import Derived.Test.YtpkfeepepbchlaaGLkD
import Derived.Test.YtpkfeepepbchlaaGLkA
namespace Go.Proofs.Ytpkfeepepbchlaa.Bl
open Go.RowKit Go.Maps Go.Proofs.YtpkfeepepbchlaaW.PrintWords Go.Proofs.YtpkfeepepbchlaaW.PrintLast Go.Proofs.YtpkfeepepbchlaaW.PrintMore Go.Proofs.Ytpkfeepepbchlaa.PK
set_option linter.unusedVariables false
set_option linter.unusedSimpArgs false
theorem clone_nil (w : World) : Calls Try.prog 30 #[.slice none 0 0] w fun e w' => e = .returned (.slice none 0 0) ∧ w' = w := by
  have hn := Lib.run_eql_slice_nil (P := Try.prog) (t := 28) (e := 5)
  go_enter Try.func30, Try.ntmps30
  go_wp2
  go_ret
  exact ⟨rfl, rfl⟩
theorem own_nil (kind : Int) (w : World) : Calls Try.prog 31 #[.agg #[.int .i64 kind, .slice none 0 0]] w fun e w' => e = .returned (.agg #[.int .i64 kind, .slice none 0 0]) ∧ Below w.heap.size w w' := by
  have K1 := Aside0.mk (blk_alloc (blk_new w (.cells #[.int .i64 kind, .slice none 0 0] 43)) (.cells #[.int .i64 0, .slice none 0 0] 43))
  have hs1 := alloc_size w (.cells #[.int .i64 kind, .slice none 0 0] 43)
  have K2 := Aside0.mk (hs1 ▸ blk_new (w.alloc (.cells #[.int .i64 kind, .slice none 0 0] 43)) (.cells #[.int .i64 0, .slice none 0 0] 43))
  have B1 := Aside0.mk (below_alloc (below_alloc (Below.refl w.heap.size w) (.cells #[.int .i64 kind, .slice none 0 0] 43)) (.cells #[.int .i64 0, .slice none 0 0] 43))
  clear hs1
  go_enter Try.func31, Try.ntmps31
  go_wp2_with fail
  generalize (w.alloc (.cells #[.int .i64 kind, .slice none 0 0] 43)).alloc (.cells #[.int .i64 0, .slice none 0 0] 43) = w1 at K1 K2 B1 ⊢
  refine (clone_nil w1).mono ?_
  rintro e w2 ⟨rfl, rfl⟩
  have a0 : w2.cell? ⟨w.heap.size, 0, none⟩ = some (.int .i64 kind) := (blk_cell K1.out 0).trans rfl
  have a1 : w2.cell? ⟨w.heap.size, 1, none⟩ = some (.slice none 0 0) := (blk_cell K1.out 1).trans rfl
  have z1 := blk_frozen K1.out 1
  have K5 := Aside0.mk (blk_put K1.out 1 (.slice none 0 0) rfl)
  have K6 := Aside0.mk (blk_far (p := ⟨w.heap.size, 1, none⟩) K2.out (show w.heap.size + 1 ≠ w.heap.size by omega) (.slice none 0 0))
  have d0 : (w2.setCell ⟨w.heap.size, 1, none⟩ (.slice none 0 0)).cell? ⟨w.heap.size, 0, none⟩ = some (.int .i64 kind) := (blk_cell K5.out 0).trans rfl
  have d1 : (w2.setCell ⟨w.heap.size, 1, none⟩ (.slice none 0 0)).cell? ⟨w.heap.size, 1, none⟩ = some (.slice none 0 0) := (blk_cell K5.out 1).trans rfl
  have e0 : (w2.setCell ⟨w.heap.size, 1, none⟩ (.slice none 0 0)).cell? ⟨w.heap.size + 1, 0, none⟩ = some (.int .i64 0) := (blk_cell K6.out 0).trans rfl
  have e1 : (w2.setCell ⟨w.heap.size, 1, none⟩ (.slice none 0 0)).cell? ⟨w.heap.size + 1, 1, none⟩ = some (.slice none 0 0) := (blk_cell K6.out 1).trans rfl
  have x0 := blk_frozen K6.out 0
  have x1 := blk_frozen K6.out 1
  go_wp2_with fail
  refine bodyPost_ret (results_cell_row rfl _ _ (w.heap.size + 1) 43 _ (0, 0) _ rfl (blk_put (blk_put K6.out 0 (.int .i64 kind) rfl) 1 (.slice none 0 0) rfl) Try.underlying43 rfl (by kernel_rfl)) rfl ?_
  exact ⟨rfl, below_set (below_set (below_set B1.out (Nat.le_refl _)) (by omega)) (by omega)⟩
section
variable {T S : List Nat} {w : World} {n gp cap : Nat} {q : Int} {ps : List Pr} {num sent ticks : Int}
set_option maxRecDepth 20000 in
set_option maxHeartbeats 8000000 in
theorem Own_none (h : Nt S w n gp cap q ps [] num sent ticks) (hTs : Ts T S n gp ps) {tt : Nat} {p : Pr} (hp : ps[tt]? = some p) (hoth : ∀ (i : Nat) (r : Pr), ps[i]? = some r → i ≠ tt → r.o = .slice none 0 0) :
    Calls Try.prog 17 #[.pointer (some ⟨n, 0, none⟩), .int .i64 tt, .slice none 0 0] w fun e w' => e = .returned (.tuple #[]) ∧ Nt S w' n gp cap q (ps.set tt { p with o := .slice none 0 0 }) [] num sent ticks ∧ Tn T w w' := by
  obtain ⟨A, c, h1, h2, h3⟩ := h.net
  have c0 : w.cell? ⟨n, 0, none⟩ = some (.slice (some ⟨gp, 0, none⟩) ps.length cap) := (blk_cell h1 0).trans rfl
  have hlt : tt < ps.length := (List.getElem?_eq_some_iff.1 hp).1
  have hlt2 : (tt : Int) < (ps.length : Int) := by omega
  have g0 : w.cell? ⟨gp, tt * 4 + 1, none⟩ = some p.o := by rw [Nat.mul_comm]; exact h.cell hp 1 _ rfl
  have z0 := h.frozen (tt * 4 + 1)
  have e0 : (0 : Int) ≤ (tt : Int) := by omega
  have N2 := Aside0.mk (h.setO hp hoth (grown_of_below (Below.refl _ _) none) (fun k e => by cases e) (.slice none 0 0) (.inl rfl))
  have T2 := Aside0.mk (Tn.of_set w hTs.gp (4 * tt + 1) (.slice none 0 0))
  have HH := Aside0.mk h
  clear h h1 h2 h3
  rw [Nat.mul_comm 4 tt] at N2 T2
  go_enter Try.func17, Try.ntmps17
  go_wp2_with fail
  refine (there_calls HH.out (tt : Int)).mono ?_
  rintro e w1 ⟨rfl, rfl⟩
  have e1 : decide (0 ≤ (tt : Int) ∧ (tt : Int) < (ps.length : Int)) = true := decide_eq_true ⟨by omega, by omega⟩
  rw [e1]
  go_wp2_with fail
  generalize w1.setCell ⟨gp, tt * 4 + 1, none⟩ (.slice none 0 0) = w2 at N2 T2 ⊢
  go_loopg [21] 1 (fun kq v21 w' => v21 = .int .i64 0 ∧ w' = w2)
  case atStart => exact ⟨rfl, rfl⟩
  case round =>
    obtain ⟨rfl, rfl⟩ := hrel
    go_wp2_with fail
    go_end0
    exact ⟨rfl, N2.out, T2.out⟩
set_option maxRecDepth 20000 in
set_option maxHeartbeats 16000000 in
theorem Own_one (h : Nt S w n gp cap q ps [] num sent ticks) (hTs : Ts T S n gp ps) {tt : Nat} {p : Pr} (hp : ps[tt]? = some p) (hoth : ∀ (i : Nat) (r : Pr), ps[i]? = some r → i ≠ tt → r.o = .slice none 0 0) {base : Nat} (hbs : base ≤ w.heap.size) (bf : Nat) (hbf : w.heap[bf]? = some (.cells #[.int .i64 1, .slice none 0 0] 43 (0, 0))) :
    Calls Try.prog 17 #[.pointer (some ⟨n, 0, none⟩), .int .i64 tt, .slice (some ⟨bf, 0, none⟩) 1 1] w fun e w' => ∃ u, e = .returned (.tuple #[]) ∧ Mute base w' u ∧ Nt S w' n gp cap q (ps.set tt { p with o := u }) [] num sent ticks ∧ Tn T w w' := by
  obtain ⟨A, c, h1, h2, h3⟩ := h.net
  have c0 : w.cell? ⟨n, 0, none⟩ = some (.slice (some ⟨gp, 0, none⟩) ps.length cap) := (blk_cell h1 0).trans rfl
  have hlt : tt < ps.length := (List.getElem?_eq_some_iff.1 hp).1
  have hlt2 : (tt : Int) < (ps.length : Int) := by omega
  have g0 : w.cell? ⟨gp, tt * 4 + 1, none⟩ = some p.o := by rw [Nat.mul_comm]; exact h.cell hp 1 _ rfl
  have z0 := h.frozen (tt * 4 + 1)
  have e0 : (0 : Int) ≤ (tt : Int) := by omega
  have N2 := Aside0.mk (h.setO hp hoth (grown_of_below (Below.refl _ _) none) (fun k e => by cases e) (.slice none 0 0) (.inl rfl))
  have T2 := Aside0.mk (Tn.of_set w hTs.gp (4 * tt + 1) (.slice none 0 0))
  have hpS : (ps.set tt { p with o := .slice none 0 0 })[tt]? = some { p with o := .slice none 0 0 } := by rw [List.getElem?_set_self hlt]
  have hoS := Aside0.mk (fun (j : Nat) (r : Pr) (hj : (ps.set tt { p with o := .slice none 0 0 })[j]? = some r) (hne : j ≠ tt) => show r.o = .slice none 0 0 from by
    rw [List.getElem?_set, if_neg (fun e => hne e.symm)] at hj
    exact hoth j r hj hne)
  have hbg : bf ≠ gp := by
    obtain ⟨pc, p1, p2⟩ := h.row
    rintro rfl
    rw [hbf] at p1
    injection p1 with p1
    injection p1 with _ p1
    exact absurd p1 (by decide)
  have KF2 := Aside0.mk (blk_far (p := ⟨gp, 4 * tt + 1, none⟩) hbf hbg (.slice none 0 0))
  have HH := Aside0.mk h
  clear h h1 h2 h3 hbf hoth
  rw [Nat.mul_comm 4 tt] at N2 T2 KF2
  go_enter Try.func17, Try.ntmps17
  go_wp2_with fail
  refine (there_calls HH.out (tt : Int)).mono ?_
  rintro e w1 ⟨rfl, rfl⟩
  have e1 : decide (0 ≤ (tt : Int) ∧ (tt : Int) < (ps.length : Int)) = true := decide_eq_true ⟨by omega, by omega⟩
  rw [e1]
  go_wp2_with fail
  generalize w1.setCell ⟨gp, tt * 4 + 1, none⟩ (.slice none 0 0) = w2 at N2 T2 KF2 ⊢
  clear c0 g0 z0 HH
  go_loopg [21] 1 (fun kq v21 w' => ∃ (i : Nat) (u : Value), v21 = .int .i64 i ∧ i ≤ 1 ∧ Aside0 (kq + i = 1) ∧ Aside0 (i = 0 → w' = w2) ∧ Aside0 (i = 1 → Mute base w' u ∧ Nt S w' n gp cap q (ps.set tt { p with o := u }) [] num sent ticks ∧ Tn T w1 w'))
  case atStart => exact ⟨0, .slice none 0 0, rfl, by omega, ⟨rfl⟩, ⟨fun _ => rfl⟩, ⟨fun h => absurd h (by decide)⟩⟩
  case round =>
    obtain ⟨i, u, rfl, hi, HK, H0, H1⟩ := hrel
    by_cases hlt0 : i < 1
    · have hi0 : i = 0 := by omega
      subst hi0
      obtain rfl := H0.out rfl
      have d0 : wr.cell? ⟨bf, 0, none⟩ = some (.int .i64 1) := (blk_cell KF2.out 0).trans rfl
      have d1 : wr.cell? ⟨bf, 1, none⟩ = some (.slice none 0 0) := (blk_cell KF2.out 1).trans rfl
      go_wp2_with fail
      have hb4 := below_alloc (Below.refl wr.heap.size wr) (.cells #[.int .i64 1, .slice none 0 0] 43)
      have KP := blk_new wr (.cells #[.int .i64 1, .slice none 0 0] 43)
      have N4 := N2.out.kept hb4
      have T4 := T2.out.trans (Tn.of_below hb4)
      generalize hpf : wr.heap.size = pf at KP ⊢
      generalize hw4 : wr.alloc (.cells #[.int .i64 1, .slice none 0 0] 43) = w4 at KP N4 T4 ⊢
      have KN := N4.net
      clear hb4 hpf hw4 d0 d1 N2 T2 KF2 H0 H1
      obtain ⟨An, cn, kn1, _, _⟩ := KN
      rw [List.length_set] at kn1
      refine wp_region_noPanic ?_
      refine wp_region_held_drew (S := fun W => W.heap[n]? = some (.cells #[.slice (some ⟨gp, 0, none⟩) ps.length cap, .slice An 0 cn, .int .i64 num, .int .i64 sent, .int .i64 ticks] 58 (0, 0)) ∧ W.heap[pf]? = some (.cells #[.int .i64 1, .slice none 0 0] 43 (0, 0))) (by kernel_rfl) (⟨blk_drew kn1, blk_drew KP⟩) (fun hHeld => ?_)
      have N5 := Aside0.mk (N4.kept (below_drew (Below.refl _ _)))
      have T5 := Aside0.mk (T4.trans (Tn.of_below (below_drew (Below.refl _ _))))
      generalize w4.drew = w5 at N5 T5 hHeld ⊢
      clear N4 T4 KP kn1
      refine wpAnyH_take (i := 0) (oi := { dst := some 25, op := _, type := _, pos := _, after := _, guard := _ }) (v := ?_) rfl (by kernel_rfl) (by kernel_rfl) (by kernel_rfl) (fun _ _ _ h => h) (Or.inl ⟨by rfl, ?_⟩) hHeld ?_
      rotate_left
      · (intro w hSw; go_simp) <;> (with_reducible rfl)
      try simp only [Act.put, List.setIfInBounds_toArray, List.set_cons_zero, List.set_cons_succ]
      refine wpAnyH_take (i := 1) (oi := { dst := some 26, op := _, type := _, pos := _, after := _, guard := _ }) (v := ?_) rfl (by kernel_rfl) (by kernel_rfl) (by kernel_rfl) (fun _ _ _ h => h) (Or.inl ⟨by rfl, ?_⟩) hHeld ?_
      rotate_left
      · (intro w hSw; go_simp) <;> (with_reducible rfl)
      try simp only [Act.put, List.setIfInBounds_toArray, List.set_cons_zero, List.set_cons_succ]
      refine wpAnyH_take (i := 2) (oi := { dst := some 27, op := _, type := _, pos := _, after := _, guard := _ }) (v := ?_) rfl (by kernel_rfl) (by kernel_rfl) (by kernel_rfl) (fun _ _ _ h => h) (Or.inl ⟨by rfl, ?_⟩) hHeld ?_
      rotate_left
      · (intro w hSw; go_simp) <;> (with_reducible rfl)
      try simp only [Act.put, List.setIfInBounds_toArray, List.set_cons_zero, List.set_cons_succ]
      refine wpAnyH_take (i := 3) (oi := { dst := some 28, op := _, type := _, pos := _, after := _, guard := _ }) (v := ?_) rfl (by kernel_rfl) (by kernel_rfl) (by kernel_rfl) (fun _ _ _ h => h) (Or.inl ⟨by rfl, ?_⟩) hHeld ?_
      rotate_left
      · (intro w hSw; have hh : w.cell? ⟨n, 0, none⟩ = some (.slice (some ⟨gp, 0, none⟩) ps.length cap) := (blk_cell hSw.1 0).trans rfl; go_simp) <;> (with_reducible rfl)
      try simp only [Act.put, List.setIfInBounds_toArray, List.set_cons_zero, List.set_cons_succ]
      refine wpAnyH_take (i := 4) (oi := { dst := some 29, op := _, type := _, pos := _, after := _, guard := _ }) (v := ?_) rfl (by kernel_rfl) (by kernel_rfl) (by kernel_rfl) (fun _ _ _ h => h) (Or.inl ⟨by rfl, ?_⟩) hHeld ?_
      rotate_left
      · (intro w hSw; go_simp) <;> (with_reducible rfl)
      try simp only [Act.put, List.setIfInBounds_toArray, List.set_cons_zero, List.set_cons_succ]
      refine wpAnyH_take (i := 5) (oi := { dst := some 30, op := _, type := _, pos := _, after := _, guard := _ }) (v := ?_) rfl (by kernel_rfl) (by kernel_rfl) (by kernel_rfl) (fun _ _ _ h => h) (Or.inl ⟨by rfl, ?_⟩) hHeld ?_
      rotate_left
      · (intro w hSw; go_simp) <;> (with_reducible rfl)
      try simp only [Act.put, List.setIfInBounds_toArray, List.set_cons_zero, List.set_cons_succ]
      refine wpAnyH_take (i := 6) (oi := { dst := some 31, op := _, type := _, pos := _, after := _, guard := _ }) (v := ?_) rfl (by kernel_rfl) (by kernel_rfl) (by kernel_rfl) (fun _ _ _ h => h) (Or.inl ⟨by rfl, ?_⟩) hHeld ?_
      rotate_left
      · (intro w hSw; go_simp) <;> (with_reducible rfl)
      try simp only [Act.put, List.setIfInBounds_toArray, List.set_cons_zero, List.set_cons_succ]
      refine wpAnyH_take (i := 7) (oi := { dst := some 32, op := _, type := _, pos := _, after := _, guard := _ }) (v := ?_) rfl (by kernel_rfl) (by kernel_rfl) (by kernel_rfl) (fun _ _ _ h => h) (Or.inl ⟨by rfl, ?_⟩) hHeld ?_
      rotate_left
      · (intro w hSw; go_simp) <;> (with_reducible rfl)
      try simp only [Act.put, List.setIfInBounds_toArray, List.set_cons_zero, List.set_cons_succ]
      refine wpAnyH_take (i := 8) (oi := { dst := some 33, op := _, type := _, pos := _, after := _, guard := _ }) (v := ?_) rfl (by kernel_rfl) (by kernel_rfl) (by kernel_rfl) (fun _ _ _ h => h) (Or.inl ⟨by rfl, ?_⟩) hHeld ?_
      rotate_left
      · (intro w hSw; have hh : w.cell? ⟨n, 0, none⟩ = some (.slice (some ⟨gp, 0, none⟩) ps.length cap) := (blk_cell hSw.1 0).trans rfl; go_simp) <;> (with_reducible rfl)
      try simp only [Act.put, List.setIfInBounds_toArray, List.set_cons_zero, List.set_cons_succ]
      refine wpAnyH_take (i := 9) (oi := { dst := some 34, op := _, type := _, pos := _, after := _, guard := _ }) (v := ?_) rfl (by kernel_rfl) (by kernel_rfl) (by kernel_rfl) (fun _ _ _ h => h) (Or.inl ⟨by rfl, ?_⟩) hHeld ?_
      rotate_left
      · (intro w hSw; go_simp) <;> (with_reducible rfl)
      try simp only [Act.put, List.setIfInBounds_toArray, List.set_cons_zero, List.set_cons_succ]
      refine wpAnyH_take (i := 10) (oi := { dst := some 35, op := _, type := _, pos := _, after := _, guard := _ }) (v := ?_) rfl (by kernel_rfl) (by kernel_rfl) (by kernel_rfl) (fun _ _ _ h => h) (Or.inl ⟨by rfl, ?_⟩) hHeld ?_
      rotate_left
      · (intro w hSw; go_simp) <;> (with_reducible rfl)
      try simp only [Act.put, List.setIfInBounds_toArray, List.set_cons_zero, List.set_cons_succ]
      refine wpAnyH_take (i := 11) (oi := { dst := some 36, op := _, type := _, pos := _, after := _, guard := _ }) (v := ?_) rfl (by kernel_rfl) (by kernel_rfl) (by kernel_rfl) (fun _ _ _ h => h) (Or.inl ⟨by rfl, ?_⟩) hHeld ?_
      rotate_left
      · (intro w hSw; go_simp) <;> (with_reducible rfl)
      try simp only [Act.put, List.setIfInBounds_toArray, List.set_cons_zero, List.set_cons_succ]
      refine wpAnyH_take (i := 13) (oi := { dst := some 38, op := _, type := _, pos := _, after := _, guard := _ }) (v := ?_) rfl (by kernel_rfl) (by kernel_rfl) (by kernel_rfl) (fun _ _ _ h => h) (Or.inl ⟨by rfl, ?_⟩) hHeld ?_
      rotate_left
      · (intro w hSw; have h0 : w.cell? ⟨pf, 0, none⟩ = some (.int .i64 1) := (blk_cell hSw.2 0).trans rfl; have h1 : w.cell? ⟨pf, 1, none⟩ = some (.slice none 0 0) := (blk_cell hSw.2 1).trans rfl; go_simp) <;> (with_reducible rfl)
      try simp only [Act.put, List.setIfInBounds_toArray, List.set_cons_zero, List.set_cons_succ]
      refine wpAnyH_ready (rs := [12, 14]) (by kernel_rfl) (by simp) (AllReadyH.cons (o := { dst := some 37, op := _, type := _, pos := _, after := _, guard := _ }) rfl (fun K hK => ?_) (AllReadyH.cons (o := { dst := some 39, op := _, type := _, pos := _, after := _, guard := _ }) rfl (fun K hK => ?_) AllReadyH.nil))
      · have gq : w5.cell? ⟨gp, tt * 4 + 1, none⟩ = some (.slice none 0 0) := by rw [Nat.mul_comm]; exact N5.out.cell hpS 1 _ rfl
        go_simp
        clear gq
        refine hK.out _ _ (hHeld) (fun hHeld2 => ?_)
        clear hK K hHeld
        have hHeld := hHeld2
        clear hHeld2
        try simp only [Act.put, List.setIfInBounds_toArray, List.set_cons_zero, List.set_cons_succ]
        refine wpAnyH_ready (rs := [14]) (by kernel_rfl) (by simp) (AllReadyH.cons (o := { dst := some 39, op := _, type := _, pos := _, after := _, guard := _ }) rfl (fun K hK => ?_) AllReadyH.nil)
        go_simp
        refine (own_nil 1 w5).mono ?_
        rintro e w6 ⟨rfl, hb6⟩
        have N6 := Aside0.mk (N5.out.kept hb6)
        have T6 := Aside0.mk (T5.out.trans (Tn.of_below hb6))
        have hS6 := And.intro (blk_below hHeld.1 hb6) (blk_below hHeld.2 hb6)
        refine hK.out _ _ hS6 (fun hHeld2 => ?_)
        clear hK K hHeld hb6 N5 T5
        have hHeld := hHeld2
        clear hHeld2 hS6
        try simp only [Act.put, List.setIfInBounds_toArray, List.set_cons_zero, List.set_cons_succ]
        refine wpAnyH_ready (rs := [15]) (by kernel_rfl) (by simp) (AllReadyH.cons (o := { dst := some 40, op := _, type := _, pos := _, after := _, guard := _ }) rfl (fun K hK => ?_) AllReadyH.nil)
        go_simp
        refine hK.out _ _ ⟨blk_alloc hHeld.1 _, blk_alloc hHeld.2 _⟩ (fun hHeld2 => ?_)
        clear hK K
        have hHeldA := hHeld2
        clear hHeld2
        try simp only [Act.put, List.setIfInBounds_toArray, List.set_cons_zero, List.set_cons_succ]
        refine wpAnyH_ready (rs := [16]) (by kernel_rfl) (by simp) (AllReadyH.cons (o := { dst := some 41, op := _, type := _, pos := _, after := _, guard := _ }) rfl (fun K hK => ?_) AllReadyH.nil)
        refine Kd.Q_append_step kV (w0 := w6) base rfl (.tmp 37) (.tmp 40) 22 43 (.agg #[.int .i64 0, .slice none 0 0]) 32 rfl Try.underlying22 infoV rfl (by decide) (by omega) (Value.slice none 0 0) [] (1, ()) [.int .i64 1, .slice none 0 0] (fun _ => True) (fun _ => False) rfl rfl (kV_mk _ _ _ _) (fun _ h => h.elim) (fun _ _ => trivial) (Kd.Q_nil _ _ _ _ _) (Below.refl _ _) (Nat.le_trans hbs T6.out.size) (by simp) ?_
        intro v7 w7 ho7 hb7 hg7 hat7
        rw [List.nil_append] at ho7
        obtain ⟨A7, c7, rfl, _⟩ := Kd.Q_slice ho7
        have hS7 := And.intro (blk_grown hHeld.1 hg7 (by simp [Value.ownBlock])) (blk_grown hHeld.2 hg7 (by simp [Value.ownBlock]))
        refine hK.out _ _ hS7 (fun hHeld2 => ?_)
        clear hK K hHeldA hHeld hS7
        have hHeld := hHeld2
        clear hHeld2
        try simp only [Act.put, List.setIfInBounds_toArray, List.set_cons_zero, List.set_cons_succ]
        obtain ⟨pc, p1, p2⟩ := N6.out.row
        have p7 := blk_grown p1 hg7 (by simp [Value.ownBlock])
        have gc7 : w7.cell? ⟨gp, tt * 4 + 1, none⟩ = some (.slice none 0 0) := by rw [Nat.mul_comm]; exact (blk_cell p7 _).trans (p2 tt _ hpS 1 _ rfl)
        have gz7 := blk_frozen p7 (tt * 4 + 1)
        have hQ8 := Kd.Q_set ho7 p7 (by decide) (4 * tt + 1) (.slice A7 1 c7)
        have N8 := N6.out.setO hpS hoS.out hg7 (fun k e => by simp [Value.ownBlock] at e) (.slice A7 1 c7) (Mute.own (Kd.Q_mono hQ8 (fun _ _ => trivial)))
        rw [List.set_set] at N8
        have T8 := (T6.out.trans ⟨hg7.os, hg7.tape, hg7.output, hg7.size, fun k hk _ => hg7.block k hk (by simp [Value.ownBlock])⟩).trans (Tn.of_set w7 hTs.gp (4 * tt + 1) (.slice A7 1 c7))
        rw [Nat.mul_comm 4 tt] at hQ8 N8 T8
        have hng := N6.out.ngp
        have hpg : pf ≠ gp := by
          rintro rfl
          have h := hHeld.2
          rw [p7] at h
          injection h with h
          injection h with _ h
          exact absurd h (by decide)
        refine wpAnyH_take (i := 17) (oi := { dst := some 42, op := _, type := _, pos := _, after := _, guard := _ }) (v := ?_) rfl (by kernel_rfl) (by kernel_rfl) (by kernel_rfl) (fun _ _ _ h => h) (Or.inl ⟨by rfl, ?_⟩) hHeld ?_
        rotate_left
        · (intro w hSw; go_simp) <;> (with_reducible rfl)
        try simp only [Act.put, List.setIfInBounds_toArray, List.set_cons_zero, List.set_cons_succ]
        refine wpAnyH_take (i := 18) (oi := { dst := some 43, op := _, type := _, pos := _, after := _, guard := _ }) (v := ?_) rfl (by kernel_rfl) (by kernel_rfl) (by kernel_rfl) (fun _ _ _ h => h) (Or.inl ⟨by rfl, ?_⟩) hHeld ?_
        rotate_left
        · (intro w hSw; go_simp) <;> (with_reducible rfl)
        try simp only [Act.put, List.setIfInBounds_toArray, List.set_cons_zero, List.set_cons_succ]
        refine wpAnyH_ready (rs := [19]) (by kernel_rfl) (by simp) (AllReadyH.cons (o := { dst := none, op := _, type := _, pos := _, after := _, guard := _ }) rfl (fun K hK => ?_) AllReadyH.nil)
        go_simp
        refine hK.out _ _ (⟨blk_far (p := ⟨gp, tt * 4 + 1, none⟩) hHeld.1 hng _, blk_far (p := ⟨gp, tt * 4 + 1, none⟩) hHeld.2 hpg _⟩) (fun hHeld2 => ?_)
        clear hK K hHeld
        have hHeld := hHeld2
        clear hHeld2
        try simp only [Act.put, List.setIfInBounds_toArray, List.set_cons_zero, List.set_cons_succ]
        refine wpAnyH_done (by kernel_rfl) ?_ _
        refine NoPanic.normal ?_
        have HQ8 := Aside0.mk hQ8
        have HN8 := Aside0.mk N8
        have HT8 := Aside0.mk T8
        generalize w7.setCell ⟨gp, tt * 4 + 1, none⟩ (.slice A7 1 c7) = w8 at HQ8 HN8 HT8 ⊢
        clear hHeld hQ8 N8 T8 p1 p2 p7 gc7 gz7 hb7 hg7 hat7 ho7
        go_wp2_with fail
        go_roundg (1 - (0 + 1))
        case measure => have := HK.out; omega
        case rel => exact ⟨1, .slice A7 1 c7, by first | rfl | simp, by omega, ⟨by have := HK.out; omega⟩, ⟨fun h => absurd h (by decide)⟩, ⟨fun _ => ⟨HQ8.out, HN8.out, HT8.out⟩⟩⟩
      · go_simp
        refine (own_nil 1 w5).mono ?_
        rintro e w6 ⟨rfl, hb6⟩
        have N6 := Aside0.mk (N5.out.kept hb6)
        have T6 := Aside0.mk (T5.out.trans (Tn.of_below hb6))
        have hS6 := And.intro (blk_below hHeld.1 hb6) (blk_below hHeld.2 hb6)
        refine hK.out _ _ hS6 (fun hHeld2 => ?_)
        clear hK K hHeld hb6 N5 T5
        have hHeld := hHeld2
        clear hHeld2 hS6
        try simp only [Act.put, List.setIfInBounds_toArray, List.set_cons_zero, List.set_cons_succ]
        refine wpAnyH_ready (rs := [12, 15]) (by kernel_rfl) (by simp) (AllReadyH.cons (o := { dst := some 37, op := _, type := _, pos := _, after := _, guard := _ }) rfl (fun K hK => ?_) (AllReadyH.cons (o := { dst := some 40, op := _, type := _, pos := _, after := _, guard := _ }) rfl (fun K hK => ?_) AllReadyH.nil))
        · have gq : w6.cell? ⟨gp, tt * 4 + 1, none⟩ = some (.slice none 0 0) := by rw [Nat.mul_comm]; exact N6.out.cell hpS 1 _ rfl
          go_simp
          clear gq
          refine hK.out _ _ (hHeld) (fun hHeld2 => ?_)
          clear hK K hHeld
          have hHeld := hHeld2
          clear hHeld2
          try simp only [Act.put, List.setIfInBounds_toArray, List.set_cons_zero, List.set_cons_succ]
          refine wpAnyH_ready (rs := [15]) (by kernel_rfl) (by simp) (AllReadyH.cons (o := { dst := some 40, op := _, type := _, pos := _, after := _, guard := _ }) rfl (fun K hK => ?_) AllReadyH.nil)
          go_simp
          refine hK.out _ _ ⟨blk_alloc hHeld.1 _, blk_alloc hHeld.2 _⟩ (fun hHeld2 => ?_)
          clear hK K
          have hHeldA := hHeld2
          clear hHeld2
          try simp only [Act.put, List.setIfInBounds_toArray, List.set_cons_zero, List.set_cons_succ]
          refine wpAnyH_ready (rs := [16]) (by kernel_rfl) (by simp) (AllReadyH.cons (o := { dst := some 41, op := _, type := _, pos := _, after := _, guard := _ }) rfl (fun K hK => ?_) AllReadyH.nil)
          refine Kd.Q_append_step kV (w0 := w6) base rfl (.tmp 37) (.tmp 40) 22 43 (.agg #[.int .i64 0, .slice none 0 0]) 32 rfl Try.underlying22 infoV rfl (by decide) (by omega) (Value.slice none 0 0) [] (1, ()) [.int .i64 1, .slice none 0 0] (fun _ => True) (fun _ => False) rfl rfl (kV_mk _ _ _ _) (fun _ h => h.elim) (fun _ _ => trivial) (Kd.Q_nil _ _ _ _ _) (Below.refl _ _) (Nat.le_trans hbs T6.out.size) (by simp) ?_
          intro v7 w7 ho7 hb7 hg7 hat7
          rw [List.nil_append] at ho7
          obtain ⟨A7, c7, rfl, _⟩ := Kd.Q_slice ho7
          have hS7 := And.intro (blk_grown hHeld.1 hg7 (by simp [Value.ownBlock])) (blk_grown hHeld.2 hg7 (by simp [Value.ownBlock]))
          refine hK.out _ _ hS7 (fun hHeld2 => ?_)
          clear hK K hHeldA hHeld hS7
          have hHeld := hHeld2
          clear hHeld2
          try simp only [Act.put, List.setIfInBounds_toArray, List.set_cons_zero, List.set_cons_succ]
          obtain ⟨pc, p1, p2⟩ := N6.out.row
          have p7 := blk_grown p1 hg7 (by simp [Value.ownBlock])
          have gc7 : w7.cell? ⟨gp, tt * 4 + 1, none⟩ = some (.slice none 0 0) := by rw [Nat.mul_comm]; exact (blk_cell p7 _).trans (p2 tt _ hpS 1 _ rfl)
          have gz7 := blk_frozen p7 (tt * 4 + 1)
          have hQ8 := Kd.Q_set ho7 p7 (by decide) (4 * tt + 1) (.slice A7 1 c7)
          have N8 := N6.out.setO hpS hoS.out hg7 (fun k e => by simp [Value.ownBlock] at e) (.slice A7 1 c7) (Mute.own (Kd.Q_mono hQ8 (fun _ _ => trivial)))
          rw [List.set_set] at N8
          have T8 := (T6.out.trans ⟨hg7.os, hg7.tape, hg7.output, hg7.size, fun k hk _ => hg7.block k hk (by simp [Value.ownBlock])⟩).trans (Tn.of_set w7 hTs.gp (4 * tt + 1) (.slice A7 1 c7))
          rw [Nat.mul_comm 4 tt] at hQ8 N8 T8
          have hng := N6.out.ngp
          have hpg : pf ≠ gp := by
            rintro rfl
            have h := hHeld.2
            rw [p7] at h
            injection h with h
            injection h with _ h
            exact absurd h (by decide)
          refine wpAnyH_take (i := 17) (oi := { dst := some 42, op := _, type := _, pos := _, after := _, guard := _ }) (v := ?_) rfl (by kernel_rfl) (by kernel_rfl) (by kernel_rfl) (fun _ _ _ h => h) (Or.inl ⟨by rfl, ?_⟩) hHeld ?_
          rotate_left
          · (intro w hSw; go_simp) <;> (with_reducible rfl)
          try simp only [Act.put, List.setIfInBounds_toArray, List.set_cons_zero, List.set_cons_succ]
          refine wpAnyH_take (i := 18) (oi := { dst := some 43, op := _, type := _, pos := _, after := _, guard := _ }) (v := ?_) rfl (by kernel_rfl) (by kernel_rfl) (by kernel_rfl) (fun _ _ _ h => h) (Or.inl ⟨by rfl, ?_⟩) hHeld ?_
          rotate_left
          · (intro w hSw; go_simp) <;> (with_reducible rfl)
          try simp only [Act.put, List.setIfInBounds_toArray, List.set_cons_zero, List.set_cons_succ]
          refine wpAnyH_ready (rs := [19]) (by kernel_rfl) (by simp) (AllReadyH.cons (o := { dst := none, op := _, type := _, pos := _, after := _, guard := _ }) rfl (fun K hK => ?_) AllReadyH.nil)
          go_simp
          refine hK.out _ _ (⟨blk_far (p := ⟨gp, tt * 4 + 1, none⟩) hHeld.1 hng _, blk_far (p := ⟨gp, tt * 4 + 1, none⟩) hHeld.2 hpg _⟩) (fun hHeld2 => ?_)
          clear hK K hHeld
          have hHeld := hHeld2
          clear hHeld2
          try simp only [Act.put, List.setIfInBounds_toArray, List.set_cons_zero, List.set_cons_succ]
          refine wpAnyH_done (by kernel_rfl) ?_ _
          refine NoPanic.normal ?_
          have HQ8 := Aside0.mk hQ8
          have HN8 := Aside0.mk N8
          have HT8 := Aside0.mk T8
          generalize w7.setCell ⟨gp, tt * 4 + 1, none⟩ (.slice A7 1 c7) = w8 at HQ8 HN8 HT8 ⊢
          clear hHeld hQ8 N8 T8 p1 p2 p7 gc7 gz7 hb7 hg7 hat7 ho7
          go_wp2_with fail
          go_roundg (1 - (0 + 1))
          case measure => have := HK.out; omega
          case rel => exact ⟨1, .slice A7 1 c7, by first | rfl | simp, by omega, ⟨by have := HK.out; omega⟩, ⟨fun h => absurd h (by decide)⟩, ⟨fun _ => ⟨HQ8.out, HN8.out, HT8.out⟩⟩⟩
        · go_simp
          refine hK.out _ _ ⟨blk_alloc hHeld.1 _, blk_alloc hHeld.2 _⟩ (fun hHeld2 => ?_)
          clear hK K
          have hHeldA := hHeld2
          clear hHeld2
          try simp only [Act.put, List.setIfInBounds_toArray, List.set_cons_zero, List.set_cons_succ]
          refine wpAnyH_ready (rs := [12]) (by kernel_rfl) (by simp) (AllReadyH.cons (o := { dst := some 37, op := _, type := _, pos := _, after := _, guard := _ }) rfl (fun K hK => ?_) AllReadyH.nil)
          have NA := N6.out.kept (below_alloc (Below.refl _ _) (.cells #[.int .i64 1, .slice none 0 0] 43))
          have gq : (w6.alloc (.cells #[.int .i64 1, .slice none 0 0] 43)).cell? ⟨gp, tt * 4 + 1, none⟩ = some (.slice none 0 0) := by rw [Nat.mul_comm]; exact NA.cell hpS 1 _ rfl
          go_simp
          clear gq
          refine hK.out _ _ (hHeldA) (fun hHeld2 => ?_)
          clear hK K hHeldA
          have hHeldA := hHeld2
          clear hHeld2 NA
          try simp only [Act.put, List.setIfInBounds_toArray, List.set_cons_zero, List.set_cons_succ]
          refine wpAnyH_ready (rs := [16]) (by kernel_rfl) (by simp) (AllReadyH.cons (o := { dst := some 41, op := _, type := _, pos := _, after := _, guard := _ }) rfl (fun K hK => ?_) AllReadyH.nil)
          refine Kd.Q_append_step kV (w0 := w6) base rfl (.tmp 37) (.tmp 40) 22 43 (.agg #[.int .i64 0, .slice none 0 0]) 32 rfl Try.underlying22 infoV rfl (by decide) (by omega) (Value.slice none 0 0) [] (1, ()) [.int .i64 1, .slice none 0 0] (fun _ => True) (fun _ => False) rfl rfl (kV_mk _ _ _ _) (fun _ h => h.elim) (fun _ _ => trivial) (Kd.Q_nil _ _ _ _ _) (Below.refl _ _) (Nat.le_trans hbs T6.out.size) (by simp) ?_
          intro v7 w7 ho7 hb7 hg7 hat7
          rw [List.nil_append] at ho7
          obtain ⟨A7, c7, rfl, _⟩ := Kd.Q_slice ho7
          have hS7 := And.intro (blk_grown hHeld.1 hg7 (by simp [Value.ownBlock])) (blk_grown hHeld.2 hg7 (by simp [Value.ownBlock]))
          refine hK.out _ _ hS7 (fun hHeld2 => ?_)
          clear hK K hHeldA hHeld hS7
          have hHeld := hHeld2
          clear hHeld2
          try simp only [Act.put, List.setIfInBounds_toArray, List.set_cons_zero, List.set_cons_succ]
          obtain ⟨pc, p1, p2⟩ := N6.out.row
          have p7 := blk_grown p1 hg7 (by simp [Value.ownBlock])
          have gc7 : w7.cell? ⟨gp, tt * 4 + 1, none⟩ = some (.slice none 0 0) := by rw [Nat.mul_comm]; exact (blk_cell p7 _).trans (p2 tt _ hpS 1 _ rfl)
          have gz7 := blk_frozen p7 (tt * 4 + 1)
          have hQ8 := Kd.Q_set ho7 p7 (by decide) (4 * tt + 1) (.slice A7 1 c7)
          have N8 := N6.out.setO hpS hoS.out hg7 (fun k e => by simp [Value.ownBlock] at e) (.slice A7 1 c7) (Mute.own (Kd.Q_mono hQ8 (fun _ _ => trivial)))
          rw [List.set_set] at N8
          have T8 := (T6.out.trans ⟨hg7.os, hg7.tape, hg7.output, hg7.size, fun k hk _ => hg7.block k hk (by simp [Value.ownBlock])⟩).trans (Tn.of_set w7 hTs.gp (4 * tt + 1) (.slice A7 1 c7))
          rw [Nat.mul_comm 4 tt] at hQ8 N8 T8
          have hng := N6.out.ngp
          have hpg : pf ≠ gp := by
            rintro rfl
            have h := hHeld.2
            rw [p7] at h
            injection h with h
            injection h with _ h
            exact absurd h (by decide)
          refine wpAnyH_take (i := 17) (oi := { dst := some 42, op := _, type := _, pos := _, after := _, guard := _ }) (v := ?_) rfl (by kernel_rfl) (by kernel_rfl) (by kernel_rfl) (fun _ _ _ h => h) (Or.inl ⟨by rfl, ?_⟩) hHeld ?_
          rotate_left
          · (intro w hSw; go_simp) <;> (with_reducible rfl)
          try simp only [Act.put, List.setIfInBounds_toArray, List.set_cons_zero, List.set_cons_succ]
          refine wpAnyH_take (i := 18) (oi := { dst := some 43, op := _, type := _, pos := _, after := _, guard := _ }) (v := ?_) rfl (by kernel_rfl) (by kernel_rfl) (by kernel_rfl) (fun _ _ _ h => h) (Or.inl ⟨by rfl, ?_⟩) hHeld ?_
          rotate_left
          · (intro w hSw; go_simp) <;> (with_reducible rfl)
          try simp only [Act.put, List.setIfInBounds_toArray, List.set_cons_zero, List.set_cons_succ]
          refine wpAnyH_ready (rs := [19]) (by kernel_rfl) (by simp) (AllReadyH.cons (o := { dst := none, op := _, type := _, pos := _, after := _, guard := _ }) rfl (fun K hK => ?_) AllReadyH.nil)
          go_simp
          refine hK.out _ _ (⟨blk_far (p := ⟨gp, tt * 4 + 1, none⟩) hHeld.1 hng _, blk_far (p := ⟨gp, tt * 4 + 1, none⟩) hHeld.2 hpg _⟩) (fun hHeld2 => ?_)
          clear hK K hHeld
          have hHeld := hHeld2
          clear hHeld2
          try simp only [Act.put, List.setIfInBounds_toArray, List.set_cons_zero, List.set_cons_succ]
          refine wpAnyH_done (by kernel_rfl) ?_ _
          refine NoPanic.normal ?_
          have HQ8 := Aside0.mk hQ8
          have HN8 := Aside0.mk N8
          have HT8 := Aside0.mk T8
          generalize w7.setCell ⟨gp, tt * 4 + 1, none⟩ (.slice A7 1 c7) = w8 at HQ8 HN8 HT8 ⊢
          clear hHeld hQ8 N8 T8 p1 p2 p7 gc7 gz7 hb7 hg7 hat7 ho7
          go_wp2_with fail
          go_roundg (1 - (0 + 1))
          case measure => have := HK.out; omega
          case rel => exact ⟨1, .slice A7 1 c7, by first | rfl | simp, by omega, ⟨by have := HK.out; omega⟩, ⟨fun h => absurd h (by decide)⟩, ⟨fun _ => ⟨HQ8.out, HN8.out, HT8.out⟩⟩⟩
    · have hi1 : i = 1 := by omega
      subst hi1
      go_wp2_with fail
      go_end0
      have h9 := H1.out
      simp only [true_implies, forall_const] at h9
      obtain ⟨g1, g2, g3⟩ := h9
      exact ⟨rfl, u, g1, g2, g3⟩
end
end Go.Proofs.Ytpkfeepepbchlaa.Bl
