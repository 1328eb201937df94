import Derived.Test.YtkabjbkefoipnaaDoorGMl
import Derived.Deep.DeepCutAuto
namespace Go.Proofs.YtkabjbkefoipnaaDoor.Md
open Go.Lib Go.RowKit Go.Proofs.YtkabjbkefoipnaaDoorW.PrintWords Go.Proofs.YtkabjbkefoipnaaDoorW.PrintLast Go.Proofs.YtkabjbkefoipnaaDoorW.PrintMore Go.Proofs.YtkabjbkefoipnaaDoor.PM Go.Proofs.YtkabjbkefoipnaaDoor.Nm
set_option linter.unusedVariables false
set_option linter.unusedSimpArgs false
theorem len_snoc {α : Type} {a b : List α} {x : α} (h : b = a ++ [x]) : b.length = a.length + 1 := by subst h; rw [List.length_append]; rfl
theorem snoc5 (us : List Kn) (v : Kn) (h : us.length ≤ 4) : (us ++ [v]).length ≤ 5 := by rw [List.length_append]; simp only [List.length_cons, List.length_nil]; omega
theorem snoc1 (us : List Kn) (v : Kn) : 0 < (us ++ [v]).length := by rw [List.length_append]; simp
theorem cut_drop1 {vs : List Kn} (h : 4 < vs.length) (hg : vs[1].f1 = false) : cutV vs = vs.drop 1 := by
  match vs, h with
  | a :: b :: r, h => exact cut_there (by simp only [List.length_cons] at h; omega) hg
theorem cut_drop2 {vs : List Kn} (h : 4 < vs.length) (hg : vs[1].f1 = true) : cutV vs = vs.drop 2 := by
  match vs, h with
  | a :: b :: r, h => exact cut_gone (by simp only [List.length_cons] at h; omega) hg
set_option maxRecDepth 20000 in
set_option maxHeartbeats 8000000 in
theorem refWith_calls (l : List Sc) (name : ByteArray) (v : Kn) (A : Option Addr) (c : Nat) (A2 : Option Addr) (c2 : Nat) (w : World) (hr : kS.C w A l.length l) (hc : l.length ≤ c) (hl : l.length ≤ 400) (hz : ∀ s, s ∈ l → s.f0.size ≤ 4000 ∧ s.f1.length ≤ 100)
    (hn : name.size ≤ 4000) (hv : Bs.C w A2 v.f2.length v.f2) (hvc : v.f2.length ≤ c2) :
    Calls Tryd.prog 15 #[.slice A l.length c, .string name, kv v (.slice A2 v.f2.length c2)] w fun e w' => WithR l name v w' e ∧ Below w.heap.size w w' := by
  obtain ⟨vn, vg, vt⟩ := v
  dsimp only at hv hvc ⊢
  have HC := Aside0.mk hr
  have HV := Aside0.mk hv
  have HZ := Aside0.mk hz
  have K0 := Aside0.mk (blk_new w (.cells #[.int .i64 vn, .bool vg, .slice A2 vt.length c2] 25))
  have B0 := Aside0.mk (below_alloc (Below.refl w.heap.size w) (.cells #[.int .i64 vn, .bool vg, .slice A2 vt.length c2] 25))
  clear hr hv hz
  go_enter Tryd.func15, Tryd.ntmps15
  go_wp2_with fail
  generalize w.alloc (.cells #[.int .i64 vn, .bool vg, .slice A2 vt.length c2] 25) = w0 at K0 B0 ⊢
  refine (scriniumref10_Right.calls 5000 name (rightN name) w0 (rightN_is name 5000 hn (by omega))).mono ?_
  rintro e w1 ⟨rfl, hb⟩
  have B1 := Aside0.mk (B0.out.trans (hb.mono B0.out.size))
  have K1 := Aside0.mk (blk_below K0.out hb)
  clear hb K0 B0
  generalize hrn : rightN name = rn
  have HRN := Aside0.mk hrn
  clear hrn
  cases rn with
  | false =>
    go_wp2_with fail
    go_ret2
    exact ⟨.nil (.name HRN.out), B1.out⟩
  | true =>
  go_wp2_with fail
  obtain ⟨b, hb1, hb2⟩ := refRight_is l HZ.out
  refine (scriniumref22_Right.calls 20000 A c l b w1 (Kd.C_below HC.out B1.out) hc hb1).mono ?_
  rintro e w2 ⟨rfl, hb⟩
  have B2 := Aside0.mk (B1.out.trans (hb.mono B1.out.size))
  have K2 := Aside0.mk (blk_below K1.out hb)
  have HRI := Aside0.mk hb2
  clear hb hb1 hb2 K1 B1
  cases b with
  | false =>
    have HNR := Aside0.mk (show ¬ RightP l from fun h => by have := HRI.out.2 h; cases this)
    go_wp2_with fail
    go_ret2
    exact ⟨.nil (.arg HRN.out fun h => HNR.out h.1), B2.out⟩
  | true =>
  have HR := Aside0.mk (HRI.out.1 rfl)
  clear HRI
  have y0 := (blk_cell K2.out 0).trans (show _ = some (Value.int .i64 vn) from rfl)
  by_cases q1 : vn < 1
  · go_wp2_with fail
    go_ret2
    exact ⟨.nil (.arg HRN.out fun h => by have := h.2.1; dsimp only at this; omega), B2.out⟩
  by_cases q2 : 200 < vn
  · go_wp2_with fail
    go_ret2
    exact ⟨.nil (.arg HRN.out fun h => by have := h.2.2; dsimp only at this; omega), B2.out⟩
  go_wp2_with fail
  obtain ⟨i0, t, hf⟩ := FndP.any l name
  have hfind : scriniumref22_find.f 5000 l name = some (if t = true then (i0 : Int) else -1) := find_loop l name hl (fun s hs => (HZ.out s hs).1) hn i0 t hf HR.out HRN.out l.length 5000 0 (by omega) (by omega) (fun _ => Nat.zero_le _)
  refine (scriniumref22_find.calls 5000 A c l name _ w2 (Kd.C_below HC.out B2.out) hc hfind).mono ?_
  rintro e w3 ⟨rfl, hb⟩
  have B3 := Aside0.mk (B2.out.trans (hb.mono B2.out.size))
  have K3 := Aside0.mk (blk_below K2.out hb)
  have HF := Aside0.mk hf
  have hile := hf.le
  generalize hat : (if t = true then (i0 : Int) else -1) = at_
  have hat1 : t = true → at_ = i0 := fun h => by rw [← hat, if_pos h]
  have hat0 : t = false → at_ = -1 := fun h => by rw [← hat, h]; rfl
  have HAT1 := Aside0.mk hat1
  have HAT0 := Aside0.mk hat0
  clear hb hfind hf hat hat1 hat0 K2 B2 y0
  go_upto_if 35 with fail
  go_cut [9, 10] (fun v9 v10 wc => ∃ A9 c9, v9 = .slice A9 (wasV l i0 t).length c9 ∧ (wasV l i0 t).length ≤ c9 ∧ v10 = .bool (lastV (wasV l i0 t)).f1 ∧ (lastV (wasV l i0 t)).f0 < vn ∧ Aside0 (Kd.N kK 25 wc (w.heap.size + 1) (fun _ => True) (.slice A9 (wasV l i0 t).length c9) (wasV l i0 t)) ∧ Aside0 (Below (w.heap.size + 1) w3 wc) ∧ wc.heap.size ≥ w3.heap.size)
  case first =>
    cases t with
    | false =>
      obtain rfl := HAT0.out rfl
      go_wp2_with fail
      go_meet
      case rel => exact ⟨none, 0, rfl, Nat.le_refl _, rfl, by show (0 : Int) < vn; omega, ⟨Kd.N_nil _ _ _ _ _⟩, ⟨Below.refl _ _⟩, Nat.le_refl _⟩
    | true =>
      obtain rfl := HAT1.out rfl
      obtain ⟨hlt, _⟩ := HF.out.yes rfl
      have hS := HR.out.at i0 hlt
      have hp1 := hS.pos
      have hp4 := hS.most
      have hci : (i0 : Int) < (l.length : Int) := by omega
      obtain ⟨ad, A1, c1, e9, hx0, hx1, hl1, hC1⟩ := at_T39 HC.out i0 (Int.natCast_nonneg _) hci
      cases e9
      have hx1 := Kd.cell_heap (fun k hk => B3.out.block k hk) hx1
      rw [rdS l i0 hlt, Int.toNat_natCast] at hx1
      rw [rdS l i0 hlt] at hl1 hC1
      have HUS := Aside0.mk (was_there hlt)
      clear hx0 hS
      generalize l[i0].f1 = us at hx1 hl1 hC1 HUS hp1 hp4
      have FF := Aside0.mk (Kd.F_below (Kd.C_F k25_heap hC1) B3.out)
      clear hC1
      have hla := lastV_get (l := us) (by omega)
      generalize hx : lastV us = x at hla
      obtain ⟨xn, xg, xt⟩ := x
      have HLA := Aside0.mk hla.symm
      have HX := Aside0.mk hx
      clear hla hx
      have hq0 : (0 : Int) ≤ (us.length : Int) - 1 := by omega
      have hq1 : (us.length : Int) - 1 < (us.length : Int) := by omega
      have hq2 : (1 : Int) ≤ (us.length : Int) := by omega
      have hwm : IntKind.i64.wrap ((us.length : Int) - 1) = (us.length : Int) - 1 := by rw [i64_w]; unfold wrap64; omega
      have hw3 := blk_lt K3.out
      go_wp2_with (first | ((with_reducible refine gate_builtin (b := .append) (xs := #[.tmp 36, .tmp 41]) rfl ?_); at_builtin; refine Kd.N_append_rows kK (w0 := w3) (w.heap.size + 1) rfl (.tmp 36) (.tmp 41) 37 25 (.agg #[.int .i64 0, .bool false, .slice none 0 0]) 40 rfl Tryd.underlying37 info25 rfl (by decide) (by omega) (.slice none 0 0) ([] : List Kn) us A1 us.length c1 (fun _ => True) (fun k => k < w.heap.size) rfl rfl (Kd.N_nil _ _ _ _ _) FF.out (fun _ _ => ⟨trivial, by simp [Value.ownBlock]⟩) (fun _ _ => trivial) (Below.refl _ _) ?aS ?aL ?_; (case aS => omega); (case aL => simp only [List.length_nil]; omega); intro v1 w4 ho hb hg hat; rw [List.nil_append] at ho; obtain ⟨A9, c9, rfl, hc9, hC9⟩ := Kd.N_reads ho; obtain ⟨ad9, A5, c5, e9, hy0, hy1, hy2, hl5, hC5⟩ := at_T25 hC9 ((us.length : Int) - 1) hq0 hq1; cases e9; rw [show ((us.length : Int) - 1) = ((us.length - 1 : Nat) : Int) by omega, rdK us _ (by omega), HLA.out] at hy0 hy1; rw [Int.toNat_natCast] at hy0 hy1; have y0 := ((blk_cell ((hb.block _ (by omega)).trans K3.out) 0).trans (show _ = some (Value.int .i64 vn) from rfl)); have HO := Aside0.mk ho; have HB4 := Aside0.mk hb; clear hy2 hl5 hC5 ho hb hg hat hC9 hx1) | fail)
      have X0 := Aside0.mk y0
      have X1 := Aside0.mk hy0
      clear y0 hy0 hy1
      by_cases q3 : vn ≤ xn
      · refine wp_region_noPanic ?_
        refine wp_region_held_drew (S := fun W => Below w4.heap.size w4 W) (by kernel_rfl) (below_drew (Below.refl _ _)) (fun hHeld => ?_)
        refine wpAnyH_take (i := 0) (oi := { dst := some 50, op := _, type := _, pos := _, after := _, guard := _ }) (v := ?_) rfl (by kernel_rfl) (by kernel_rfl) (by kernel_rfl) (fun _ _ _ h => h) (Or.inl ⟨by rfl, ?_⟩) hHeld ?_
        rotate_left
        · (intro w hSw; have s0 := pw_cell_below hSw X0.out; have s1 := pw_cell_below hSw X1.out; go_simp) <;> (with_reducible rfl)
        try simp only [Act.put, List.setIfInBounds_toArray, List.set_cons_zero, List.set_cons_succ]
        refine wpAnyH_take (i := 1) (oi := { dst := some 51, op := _, type := _, pos := _, after := _, guard := _ }) (v := ?_) rfl (by kernel_rfl) (by kernel_rfl) (by kernel_rfl) (fun _ _ _ h => h) (Or.inl ⟨by rfl, ?_⟩) hHeld ?_
        rotate_left
        · (intro w hSw; have s0 := pw_cell_below hSw X0.out; have s1 := pw_cell_below hSw X1.out; go_simp) <;> (with_reducible rfl)
        try simp only [Act.put, List.setIfInBounds_toArray, List.set_cons_zero, List.set_cons_succ]
        refine wpAnyH_take (i := 2) (oi := { dst := some 52, op := _, type := _, pos := _, after := _, guard := _ }) (v := ?_) rfl (by kernel_rfl) (by kernel_rfl) (by kernel_rfl) (fun _ _ _ h => h) (Or.inl ⟨by rfl, ?_⟩) hHeld ?_
        rotate_left
        · (intro w hSw; have s0 := pw_cell_below hSw X0.out; have s1 := pw_cell_below hSw X1.out; go_simp) <;> (with_reducible rfl)
        try simp only [Act.put, List.setIfInBounds_toArray, List.set_cons_zero, List.set_cons_succ]
        refine wpAnyH_take (i := 3) (oi := { dst := some 53, op := _, type := _, pos := _, after := _, guard := _ }) (v := ?_) rfl (by kernel_rfl) (by kernel_rfl) (by kernel_rfl) (fun _ _ _ h => h) (Or.inl ⟨by rfl, ?_⟩) hHeld ?_
        rotate_left
        · (intro w hSw; have s0 := pw_cell_below hSw X0.out; have s1 := pw_cell_below hSw X1.out; go_simp) <;> (with_reducible rfl)
        try simp only [Act.put, List.setIfInBounds_toArray, List.set_cons_zero, List.set_cons_succ]
        refine wpAnyH_take (i := 4) (oi := { dst := some 54, op := _, type := _, pos := _, after := _, guard := _ }) (v := ?_) rfl (by kernel_rfl) (by kernel_rfl) (by kernel_rfl) (fun _ _ _ h => h) (Or.inl ⟨by rfl, ?_⟩) hHeld ?_
        rotate_left
        · (intro w hSw; have s0 := pw_cell_below hSw X0.out; have s1 := pw_cell_below hSw X1.out; go_simp) <;> (with_reducible rfl)
        try simp only [Act.put, List.setIfInBounds_toArray, List.set_cons_zero, List.set_cons_succ]
        refine wpAnyH_take (i := 5) (oi := { dst := some 55, op := _, type := _, pos := _, after := _, guard := _ }) (v := ?_) rfl (by kernel_rfl) (by kernel_rfl) (by kernel_rfl) (fun _ _ _ h => h) (Or.inl ⟨by rfl, ?_⟩) hHeld ?_
        rotate_left
        · (intro w hSw; have s0 := pw_cell_below hSw X0.out; have s1 := pw_cell_below hSw X1.out; go_simp) <;> (with_reducible rfl)
        try simp only [Act.put, List.setIfInBounds_toArray, List.set_cons_zero, List.set_cons_succ]
        refine wpAnyH_take (i := 6) (oi := { dst := some 56, op := _, type := _, pos := _, after := _, guard := _ }) (v := ?_) rfl (by kernel_rfl) (by kernel_rfl) (by kernel_rfl) (fun _ _ _ h => h) (Or.inl ⟨by rfl, ?_⟩) hHeld ?_
        rotate_left
        · (intro w hSw; have s0 := pw_cell_below hSw X0.out; have s1 := pw_cell_below hSw X1.out; go_simp) <;> (with_reducible rfl)
        try simp only [Act.put, List.setIfInBounds_toArray, List.set_cons_zero, List.set_cons_succ]
        refine wpAnyH_take (i := 7) (oi := { dst := some 57, op := _, type := _, pos := _, after := _, guard := _ }) (v := ?_) rfl (by kernel_rfl) (by kernel_rfl) (by kernel_rfl) (fun _ _ _ h => h) (Or.inl ⟨by rfl, ?_⟩) hHeld ?_
        rotate_left
        · (intro w hSw; have s0 := pw_cell_below hSw X0.out; have s1 := pw_cell_below hSw X1.out; go_simp) <;> (with_reducible rfl)
        try simp only [Act.put, List.setIfInBounds_toArray, List.set_cons_zero, List.set_cons_succ]
        refine wpAnyH_take (i := 8) (oi := { dst := some 58, op := _, type := _, pos := _, after := _, guard := _ }) (v := ?_) rfl (by kernel_rfl) (by kernel_rfl) (by kernel_rfl) (fun _ _ _ h => h) (Or.inl ⟨by rfl, ?_⟩) hHeld ?_
        rotate_left
        · (intro w hSw; have s0 := pw_cell_below hSw X0.out; have s1 := pw_cell_below hSw X1.out; go_simp) <;> (with_reducible rfl)
        try simp only [Act.put, List.setIfInBounds_toArray, List.set_cons_zero, List.set_cons_succ]
        refine wpAnyH_take (i := 9) (oi := { dst := some 59, op := _, type := _, pos := _, after := _, guard := _ }) (v := ?_) rfl (by kernel_rfl) (by kernel_rfl) (by kernel_rfl) (fun _ _ _ h => h) (Or.inl ⟨by rfl, ?_⟩) hHeld ?_
        rotate_left
        · (intro w hSw; have s0 := pw_cell_below hSw X0.out; have s1 := pw_cell_below hSw X1.out; go_simp) <;> (with_reducible rfl)
        try simp only [Act.put, List.setIfInBounds_toArray, List.set_cons_zero, List.set_cons_succ]
        refine wpAnyH_done (by kernel_rfl) ?_ _
        refine NoPanic.normal ?_
        go_wp2_with fail
        go_ret2
        exact ⟨.nil (.old i0 true HRN.out HR.out (by show 1 ≤ vn; omega) (by show vn ≤ 200; omega) HF.out (by rw [HUS.out, HX.out]; exact q3)), B3.out.trans (below_drew (HB4.out.mono (by omega)))⟩
      · refine wp_region_noPanic ?_
        refine wp_region_held_drew (S := fun W => Below w4.heap.size w4 W) (by kernel_rfl) (below_drew (Below.refl _ _)) (fun hHeld => ?_)
        refine wpAnyH_take (i := 0) (oi := { dst := some 50, op := _, type := _, pos := _, after := _, guard := _ }) (v := ?_) rfl (by kernel_rfl) (by kernel_rfl) (by kernel_rfl) (fun _ _ _ h => h) (Or.inl ⟨by rfl, ?_⟩) hHeld ?_
        rotate_left
        · (intro w hSw; have s0 := pw_cell_below hSw X0.out; have s1 := pw_cell_below hSw X1.out; go_simp) <;> (with_reducible rfl)
        try simp only [Act.put, List.setIfInBounds_toArray, List.set_cons_zero, List.set_cons_succ]
        refine wpAnyH_take (i := 1) (oi := { dst := some 51, op := _, type := _, pos := _, after := _, guard := _ }) (v := ?_) rfl (by kernel_rfl) (by kernel_rfl) (by kernel_rfl) (fun _ _ _ h => h) (Or.inl ⟨by rfl, ?_⟩) hHeld ?_
        rotate_left
        · (intro w hSw; have s0 := pw_cell_below hSw X0.out; have s1 := pw_cell_below hSw X1.out; go_simp) <;> (with_reducible rfl)
        try simp only [Act.put, List.setIfInBounds_toArray, List.set_cons_zero, List.set_cons_succ]
        refine wpAnyH_take (i := 2) (oi := { dst := some 52, op := _, type := _, pos := _, after := _, guard := _ }) (v := ?_) rfl (by kernel_rfl) (by kernel_rfl) (by kernel_rfl) (fun _ _ _ h => h) (Or.inl ⟨by rfl, ?_⟩) hHeld ?_
        rotate_left
        · (intro w hSw; have s0 := pw_cell_below hSw X0.out; have s1 := pw_cell_below hSw X1.out; go_simp) <;> (with_reducible rfl)
        try simp only [Act.put, List.setIfInBounds_toArray, List.set_cons_zero, List.set_cons_succ]
        refine wpAnyH_take (i := 3) (oi := { dst := some 53, op := _, type := _, pos := _, after := _, guard := _ }) (v := ?_) rfl (by kernel_rfl) (by kernel_rfl) (by kernel_rfl) (fun _ _ _ h => h) (Or.inl ⟨by rfl, ?_⟩) hHeld ?_
        rotate_left
        · (intro w hSw; have s0 := pw_cell_below hSw X0.out; have s1 := pw_cell_below hSw X1.out; go_simp) <;> (with_reducible rfl)
        try simp only [Act.put, List.setIfInBounds_toArray, List.set_cons_zero, List.set_cons_succ]
        refine wpAnyH_take (i := 4) (oi := { dst := some 54, op := _, type := _, pos := _, after := _, guard := _ }) (v := ?_) rfl (by kernel_rfl) (by kernel_rfl) (by kernel_rfl) (fun _ _ _ h => h) (Or.inl ⟨by rfl, ?_⟩) hHeld ?_
        rotate_left
        · (intro w hSw; have s0 := pw_cell_below hSw X0.out; have s1 := pw_cell_below hSw X1.out; go_simp) <;> (with_reducible rfl)
        try simp only [Act.put, List.setIfInBounds_toArray, List.set_cons_zero, List.set_cons_succ]
        refine wpAnyH_take (i := 5) (oi := { dst := some 55, op := _, type := _, pos := _, after := _, guard := _ }) (v := ?_) rfl (by kernel_rfl) (by kernel_rfl) (by kernel_rfl) (fun _ _ _ h => h) (Or.inl ⟨by rfl, ?_⟩) hHeld ?_
        rotate_left
        · (intro w hSw; have s0 := pw_cell_below hSw X0.out; have s1 := pw_cell_below hSw X1.out; go_simp) <;> (with_reducible rfl)
        try simp only [Act.put, List.setIfInBounds_toArray, List.set_cons_zero, List.set_cons_succ]
        refine wpAnyH_take (i := 6) (oi := { dst := some 56, op := _, type := _, pos := _, after := _, guard := _ }) (v := ?_) rfl (by kernel_rfl) (by kernel_rfl) (by kernel_rfl) (fun _ _ _ h => h) (Or.inl ⟨by rfl, ?_⟩) hHeld ?_
        rotate_left
        · (intro w hSw; have s0 := pw_cell_below hSw X0.out; have s1 := pw_cell_below hSw X1.out; go_simp) <;> (with_reducible rfl)
        try simp only [Act.put, List.setIfInBounds_toArray, List.set_cons_zero, List.set_cons_succ]
        refine wpAnyH_take (i := 7) (oi := { dst := some 57, op := _, type := _, pos := _, after := _, guard := _ }) (v := ?_) rfl (by kernel_rfl) (by kernel_rfl) (by kernel_rfl) (fun _ _ _ h => h) (Or.inl ⟨by rfl, ?_⟩) hHeld ?_
        rotate_left
        · (intro w hSw; have s0 := pw_cell_below hSw X0.out; have s1 := pw_cell_below hSw X1.out; go_simp) <;> (with_reducible rfl)
        try simp only [Act.put, List.setIfInBounds_toArray, List.set_cons_zero, List.set_cons_succ]
        refine wpAnyH_take (i := 8) (oi := { dst := some 58, op := _, type := _, pos := _, after := _, guard := _ }) (v := ?_) rfl (by kernel_rfl) (by kernel_rfl) (by kernel_rfl) (fun _ _ _ h => h) (Or.inl ⟨by rfl, ?_⟩) hHeld ?_
        rotate_left
        · (intro w hSw; have s0 := pw_cell_below hSw X0.out; have s1 := pw_cell_below hSw X1.out; go_simp) <;> (with_reducible rfl)
        try simp only [Act.put, List.setIfInBounds_toArray, List.set_cons_zero, List.set_cons_succ]
        refine wpAnyH_take (i := 9) (oi := { dst := some 59, op := _, type := _, pos := _, after := _, guard := _ }) (v := ?_) rfl (by kernel_rfl) (by kernel_rfl) (by kernel_rfl) (fun _ _ _ h => h) (Or.inl ⟨by rfl, ?_⟩) hHeld ?_
        rotate_left
        · (intro w hSw; have s0 := pw_cell_below hSw X0.out; have s1 := pw_cell_below hSw X1.out; go_simp) <;> (with_reducible rfl)
        try simp only [Act.put, List.setIfInBounds_toArray, List.set_cons_zero, List.set_cons_succ]
        refine wpAnyH_done (by kernel_rfl) ?_ _
        refine NoPanic.normal ?_
        go_wp2_with fail
        go_meet
        case rel => rw [HUS.out, HX.out]; exact ⟨_, _, rfl, hc9, rfl, by show xn < vn; omega, ⟨Kd.N_drew HO.out⟩, ⟨below_drew HB4.out⟩, HB4.out.size⟩
  case rest =>
    obtain ⟨A9, c9, rfl, hc9, rfl, hlast, HO, HB4, hsz⟩ := hcut
    have hw3 := blk_lt K3.out
    have B4 := Aside0.mk (B3.out.trans (HB4.out.mono (by omega)))
    have K4 := Aside0.mk ((HB4.out.block w.heap.size (by omega)).trans K3.out)
    have HUL := Aside0.mk (show (wasV l i0 t).length ≤ 4 by
      cases t with
      | false => exact Nat.zero_le _
      | true =>
        obtain ⟨hlt, _⟩ := HF.out.yes rfl
        rw [was_there hlt]
        exact (HR.out.at i0 hlt).most)
    clear HB4 B3 K3
    generalize hus : wasV l i0 t = us at hc9 hlast HO HUL ⊢
    have HUS := Aside0.mk hus
    clear hus
    generalize hgb : (lastV us).f1 = gb
    have HGB := Aside0.mk hgb
    have HLAST := Aside0.mk (show (lastV (wasV l i0 t)).f0 < vn by rw [HUS.out]; exact hlast)
    clear hgb hlast
    have y1 := (blk_cell K4.out 1).trans (show _ = some (Value.bool vg) from rfl)
    have y2 := (blk_cell K4.out 2).trans (show _ = some (Value.slice A2 vt.length c2) from rfl)
    by_cases q4 : (1000 : Int) < (vt.length : Int)
    · go_wp2_with fail
      go_ret2
      exact ⟨.nil (.long i0 t HRN.out HR.out (by show 1 ≤ vn; omega) (by show vn ≤ 200; omega) HF.out HLAST.out (by show 1000 < vt.length; omega)), B4.out⟩
    go_upto_region 15 with fail
    go_cut [68] (fun v68 wx => v68 = .bool (vg && gb) ∧ wx = wc)
    case first =>
      cases vg <;> cases gb <;> (go_wp2_with fail; go_meet; case rel => exact ⟨rfl, rfl⟩)
    case rest =>
      obtain ⟨rfl, rfl⟩ := hcut
      cases hgg : (vg && gb) with
      | true =>
        have HGG := Aside0.mk hgg
        clear hgg
        go_wp2_with fail
        go_ret2
        rw [Bool.and_eq_true] at HGG
        exact ⟨.nil (.none i0 t HRN.out HR.out (by show 1 ≤ vn; omega) (by show vn ≤ 200; omega) HF.out HLAST.out (by show vt.length ≤ 1000; omega) HGG.out.1 (by rw [HUS.out, HGB.out]; exact HGG.out.2)), B4.out⟩
      | false =>
        have HGG := Aside0.mk (show vg = true → (lastV (wasV l i0 t)).f1 = false by rw [HUS.out, HGB.out]; intro h; rw [h] at hgg; simpa using hgg)
        clear hgg
        go_upto_region 17 with fail
        go_cut [75] (fun v75 wx => v75 = .bool (decide (t = false ∧ 24 ≤ l.length)) ∧ wx = wc)
        case first =>
          cases t with
          | true =>
            obtain rfl := HAT1.out rfl
            have hnl : ¬ (i0 : Int) < 0 := by omega
            go_wp2_with fail
            go_meet
            case rel => exact ⟨by simp, rfl⟩
          | false =>
            obtain rfl := HAT0.out rfl
            by_cases q5 : (24 : Int) ≤ (l.length : Int)
            · go_wp2_with fail
              go_meet
              case rel => exact ⟨by simp; omega, rfl⟩
            · go_wp2_with fail
              go_meet
              case rel => exact ⟨by simp; omega, rfl⟩
        case rest =>
          obtain ⟨rfl, rfl⟩ := hcut
          by_cases hfull : t = false ∧ 24 ≤ l.length
          · rw [decide_eq_true hfull]
            have HFU := Aside0.mk hfull
            clear hfull
            go_wp2_with fail
            go_ret2
            refine ⟨.nil ?_, B4.out⟩
            obtain ⟨h1, h2⟩ := HFU.out
            subst h1
            exact .full i0 HRN.out HR.out (by show 1 ≤ vn; omega) (by show vn ≤ 200; omega) HF.out HLAST.out (by show vt.length ≤ 1000; omega) HGG.out h2
          · rw [decide_eq_false hfull]
            have HWP := Aside0.mk (WithP.ok (v := ⟨vn, vg, vt⟩) i0 t HRN.out HR.out (by show 1 ≤ vn; omega) (by show vn ≤ 200; omega) HF.out HLAST.out (by show vt.length ≤ 1000; omega) HGG.out (fun h => Nat.lt_of_not_le fun k => hfull ⟨h, k⟩))
            clear hfull
            have FV := Aside0.mk (Foot.imp (Kd.F_below (Kd.C_F (Kd.heap_int .u8) HV.out) B4.out) (fun W' hC => k25_mk W' ⟨vn, vg, vt⟩ hvc hC))
            have y0 := (blk_cell K4.out 0).trans (show _ = some (Value.int .i64 vn) from rfl)
            have hw4 := blk_lt K4.out
            have hul := HUL.out
            go_upto_if 82 with (first | ((with_reducible refine gate_builtin (b := .append) (xs := #[.tmp 76, .tmp 78]) rfl ?_); at_builtin; refine Kd.N_append kK (w0 := w) (w.heap.size) rfl (.tmp 76) (.tmp 78) 37 25 (.agg #[.int .i64 0, .bool false, .slice none 0 0]) 40 rfl Tryd.underlying37 info25 rfl (by decide) (by omega) (.slice A9 us.length c9) us ⟨vn, vg, vt⟩ [.int .i64 vn, .bool vg, .slice A2 vt.length c2] (fun _ => True) (fun k => k < w.heap.size) rfl rfl FV.out (fun k hk => ⟨trivial, fun h => by have := Kd.N_base HO.out k h.symm; omega⟩) (fun _ _ => trivial) (Kd.N_lower HO.out (by omega)) B4.out ?aS ?aL ?_; (case aS => omega); (case aL => omega); intro v1 w5 ho hb hg hat; have hvl := snoc5 us (⟨vn, vg, vt⟩ : Kn) hul; have hvp := snoc1 us (⟨vn, vg, vt⟩ : Kn); generalize hvs : us ++ [(⟨vn, vg, vt⟩ : Kn)] = vs at ho hvl hvp ⊢; have HVS := Aside0.mk hvs; clear hvs; obtain ⟨g5, c5, rfl, _, _, _⟩ := Kd.N_form ho (by omega); obtain ⟨_, hc5, hC5⟩ := Kd.N_reads' ho; have FO := Aside0.mk (Kd.F_bound (Kd.N_F ho)); have B5 := Aside0.mk hb; clear ho hb hg hat hC5) | fail)
            go_cut [9] (fun v9 wx => ∃ A9 c9, v9 = .slice A9 (cutV vs).length c9 ∧ (cutV vs).length ≤ c9 ∧ w5 = wx ∧ Aside0 (Kd.F kK w5 (fun k => k < w5.heap.size) A9 (cutV vs).length (cutV vs)))
            case first =>
              by_cases q6 : (4 : Int) < (vs.length : Int)
              · have hv4 : 4 < vs.length := by omega
                have F1 := Kd.F_cut (m := 1) FO.out (by omega) hc5
                rw [if_neg (by omega)] at F1
                have F1 := Aside0.mk F1
                have F2 := Kd.F_cut (m := 2) FO.out (by omega) hc5
                rw [if_neg (by omega)] at F2
                have F2 := Aside0.mk F2
                have hv1 : (1 : Int) ≤ (vs.length : Int) := by omega
                have hv2 : (0 : Int) < (vs.length : Int) - 1 := by omega
                obtain ⟨ad9, A8, c8, e9, _, hx1, _, _, _⟩ := at_T25 (Kd.F_now FO.out) ((1 : Nat) : Int) (Int.natCast_nonneg _) (by omega)
                cases e9
                rw [rdK vs 1 (by omega)] at hx1
                have D1 := Aside0.mk (cut_drop1 hv4)
                have D2 := Aside0.mk (cut_drop2 hv4)
                generalize vs[1].f1 = g1 at hx1 D1 D2
                have hx1 : w5.cell? ⟨g5, 4, none⟩ = some (.bool g1) := hx1
                cases g1 with
                | false =>
                  go_wp2_with fail
                  go_meet
                  case rel => rw [show cutV vs = vs.drop 1 by first | exact D1.out rfl | exact D1.out trivial, List.length_drop]; exact ⟨_, _, rfl, by omega, rfl, ⟨by have := Kd.F_mono F1.out (fun _ hk => hk.2); rw [List.length_drop] at this; exact this⟩⟩
                | true =>
                  go_wp2_with fail
                  go_meet
                  case rel => rw [show cutV vs = vs.drop 2 by first | exact D2.out rfl | exact D2.out trivial, List.length_drop]; exact ⟨_, _, rfl, by omega, rfl, ⟨by have := Kd.F_mono F2.out (fun _ hk => hk.2); rw [List.length_drop] at this; exact this⟩⟩
              · go_wp2_with fail
                go_meet
                case rel => rw [cut_short (by omega)]; exact ⟨_, _, rfl, hc5, rfl, ⟨Kd.F_mono FO.out (fun _ hk => hk.2)⟩⟩
            case rest =>
              obtain ⟨A6, c6, rfl, hc6, rfl, FA⟩ := hcut
              have hge := B5.out.size
              have HNW' := fun us2 (h : cutV vs = us2) => (show cutV (wasV l i0 t ++ [(⟨vn, vg, vt⟩ : Kn)]) = us2 by rw [HUS.out, HVS.out, h])
              generalize hvs2 : cutV vs = us2 at hc6 FA ⊢
              have HNW := Aside0.mk (HNW' us2 hvs2)
              clear HNW' hvs2 HUS HVS HO hul hvl hvp FO
              have KS := Aside0.mk (blk_new w5 (.cells #[.string name, .slice A6 us2.length c6] 39))
              have OB := Aside0.mk (below_alloc (Below.refl w5.heap.size w5) (.cells #[.string name, .slice A6 us2.length c6] 39))
              go_wp2_with fail
              generalize w5.alloc (.cells #[.string name, .slice A6 us2.length c6] 39) = w6 at KS OB ⊢
              generalize w5.heap.size = gs at KS OB FA hge ⊢
              clear y0 y1 y2
              go_loopg [12, 13, 14] l.length (fun kq v12 v13 v14 w' => ∃ (i : Nat) (A12 : Option Addr) (c12 : Nat) (os : List Sc), v12 = .slice A12 os.length c12 ∧ v13 = .bool (decide (i0 < i)) ∧ v14 = .int .i64 i ∧ i ≤ l.length ∧ Aside0 (kq + i = l.length) ∧ Aside0 (os = outL l name ⟨vn, vg, vt⟩ i0 t i) ∧ Aside0 (Kd.N kS 39 w' gs (fun k => k ≠ gs) (.slice A12 os.length c12) os) ∧ Aside0 (∃ nm, (i ≤ i0 → nm = name) ∧ w'.heap[gs]? = some (.cells #[.string nm, .slice A6 us2.length c6] 39 (0, 0))) ∧ Aside0 (Below gs w5 w'))
              case atStart => exact ⟨0, none, 0, [], rfl, by simp, rfl, Nat.zero_le _, ⟨rfl⟩, ⟨outL_zero.symm⟩, ⟨Kd.N_nil _ _ _ _ _⟩, ⟨name, fun _ => rfl, KS.out⟩, OB⟩
              case round =>
                obtain ⟨i, A12, c12, os, rfl, rfl, rfl, hi, HK, HOS, HO, HKS, HB⟩ := hrel
                obtain ⟨nm0, hnm0, hks⟩ := HKS.out
                have KR := Aside0.mk hks
                have HNM0 := Aside0.mk hnm0
                clear hks hnm0 HKS
                have hgw := blk_lt KR.out
                have HBA := Aside0.mk (B5.out.trans (HB.out.mono hge))
                have hol : os.length ≤ i + 1 := by rw [HOS.out]; exact outL_len HF.out.le hi
                by_cases hlt : i < l.length
                · have hci : (i : Int) < (l.length : Int) := by omega
                  obtain ⟨ad, A1, c1, e9, hx0, hx1, hl1, hC1⟩ := at_T39 HC.out i (Int.natCast_nonneg _) hci
                  cases e9
                  have hxa := hx0
                  have hxb := hx1
                  have hx0 := Kd.cell_heap (fun k hk => HBA.out.block k hk) hx0
                  have hx1 := Kd.cell_heap (fun k hk => HBA.out.block k hk) hx1
                  rw [rdS l i hlt, Int.toNat_natCast] at hx0 hx1 hxa hxb
                  rw [rdS l i hlt] at hl1 hC1
                  have XI0 := Aside0.mk hxa
                  have XI1 := Aside0.mk hxb
                  clear hxa hxb
                  have FI := Aside0.mk (Kd.C_F k25_heap hC1)
                  have HSZ := Aside0.mk (HZ.out _ (List.getElem_mem hlt)).1
                  have HOT := Aside0.mk (fun hn : i ≠ i0 => (HOS.out ▸ outL_other HF.out.le hlt hn : outL l name ⟨vn, vg, vt⟩ i0 t (i + 1) = os ++ [l[i]]))
                  have HST := Aside0.mk (fun (h : i = i0) (ht : t = true) => (show outL l name ⟨vn, vg, vt⟩ i0 t (i + 1) = os ++ [⟨l[i].f0, us2⟩] by subst h ht; rw [outL_there hlt, HNW.out, HOS.out]))
                  have HSN := Aside0.mk (fun (h : i = i0) (ht : t = false) => (show outL l name ⟨vn, vg, vt⟩ i0 t (i + 1) = (os ++ [⟨name, us2⟩]) ++ [l[i]] by subst h ht; rw [outL_new hlt, HNW.out, HOS.out]))
                  have HL1 := Aside0.mk (fun (h : i < i0) => (show lessL (runes (BL (pf name))) (runes (BL (pf l[i].f0))) = false from Bool.eq_false_iff.2 (HF.out.ahead i hlt h).asym))
                  have HL2 := Aside0.mk (fun (h : i = i0) (ht : t = false) => (show lessL (runes (BL (pf name))) (runes (BL (pf l[i].f0))) = true from (HF.out.behind HR.out HRN.out).2 ht i hlt (by omega)))
                  have HL3 := Aside0.mk (fun (h : i = i0) (ht : t = true) => h)
                  clear hC1
                  generalize l[i] = x at hx0 hx1 XI0 XI1 hl1 FI HSZ HOT HST HSN HL1 HL2
                  obtain ⟨xn, xv⟩ := x
                  dsimp only at hx0 hx1 XI0 XI1 hl1 FI HSZ HOT HST HSN HL1 HL2
                  have hwl : IntKind.i64.wrap ((i : Int) + 1) = ((i + 1 : Nat) : Int) := by rw [i64_w]; unfold wrap64; omega
                  have HWL := Aside0.mk hwl
                  clear hwl
                  rcases Nat.lt_trichotomy i i0 with hlt0 | heq0 | hgt0
                  · rw [decide_eq_false (by omega)]
                    have hos1 := HOT.out (by omega)
                    have HOS1 := Aside0.mk hos1
                    clear hos1 HOT HST HSN HL2 HL3
                    cases t with
                    | true =>
                      --ARM1
                      obtain rfl := HAT1.out rfl
                      have hne : ¬ (i : Int) = (i0 : Int) := by omega
                      have hnl : ¬ (i0 : Int) < 0 := by omega
                      go_wp2_with fail
                      have X0 := Aside0.mk hx0
                      have X1 := Aside0.mk hx1
                      clear hx0 hx1
                      refine wp_region_noPanic ?_
                      refine wp_region_held_drew (S := fun W => Below wr.heap.size wr W) (by kernel_rfl) (below_drew (Below.refl _ _)) (fun hHeld => ?_)
                      refine wpAnyH_take (i := 0) (oi := { dst := some 113, op := _, type := _, pos := _, after := _, guard := _ }) (v := ?_) rfl (by kernel_rfl) (by kernel_rfl) (by kernel_rfl) (fun _ _ _ h => h) (Or.inl ⟨by rfl, ?_⟩) hHeld ?_
                      rotate_left
                      · (intro w hSw; have s0 := pw_cell_below hSw X0.out; go_simp) <;> (with_reducible rfl)
                      try simp only [Act.put, List.setIfInBounds_toArray, List.set_cons_zero, List.set_cons_succ]
                      refine wpAnyH_take (i := 1) (oi := { dst := some 114, op := _, type := _, pos := _, after := _, guard := _ }) (v := ?_) rfl (by kernel_rfl) (by kernel_rfl) (by kernel_rfl) (fun _ _ _ h => h) (Or.inl ⟨by rfl, ?_⟩) hHeld ?_
                      rotate_left
                      · (intro w hSw; have s0 := pw_cell_below hSw X0.out; go_simp) <;> (with_reducible rfl)
                      try simp only [Act.put, List.setIfInBounds_toArray, List.set_cons_zero, List.set_cons_succ]
                      refine wpAnyH_take (i := 2) (oi := { dst := some 115, op := _, type := _, pos := _, after := _, guard := _ }) (v := ?_) rfl (by kernel_rfl) (by kernel_rfl) (by kernel_rfl) (fun _ _ _ h => h) (Or.inl ⟨by rfl, ?_⟩) hHeld ?_
                      rotate_left
                      · (intro w hSw; have s0 := pw_cell_below hSw X0.out; go_simp) <;> (with_reducible rfl)
                      try simp only [Act.put, List.setIfInBounds_toArray, List.set_cons_zero, List.set_cons_succ]
                      refine wpAnyH_take (i := 3) (oi := { dst := some 116, op := _, type := _, pos := _, after := _, guard := _ }) (v := ?_) rfl (by kernel_rfl) (by kernel_rfl) (by kernel_rfl) (fun _ _ _ h => h) (Or.inl ⟨by rfl, ?_⟩) hHeld ?_
                      rotate_left
                      · (intro w hSw; have s0 := pw_cell_below hSw X0.out; go_simp) <;> (with_reducible rfl)
                      try simp only [Act.put, List.setIfInBounds_toArray, List.set_cons_zero, List.set_cons_succ]
                      refine wpAnyH_take (i := 4) (oi := { dst := some 117, op := _, type := _, pos := _, after := _, guard := _ }) (v := ?_) rfl (by kernel_rfl) (by kernel_rfl) (by kernel_rfl) (fun _ _ _ h => h) (Or.inl ⟨by rfl, ?_⟩) hHeld ?_
                      rotate_left
                      · (intro w hSw; have s0 := pw_cell_below hSw X0.out; go_simp) <;> (with_reducible rfl)
                      try simp only [Act.put, List.setIfInBounds_toArray, List.set_cons_zero, List.set_cons_succ]
                      refine wpAnyH_take (i := 5) (oi := { dst := some 118, op := _, type := _, pos := _, after := _, guard := _ }) (v := ?_) rfl (by kernel_rfl) (by kernel_rfl) (by kernel_rfl) (fun _ _ _ h => h) (Or.inl ⟨by rfl, ?_⟩) hHeld ?_
                      rotate_left
                      · (intro w hSw; have s0 := pw_cell_below hSw X0.out; go_simp) <;> (with_reducible rfl)
                      try simp only [Act.put, List.setIfInBounds_toArray, List.set_cons_zero, List.set_cons_succ]
                      refine wpAnyH_take (i := 6) (oi := { dst := some 119, op := _, type := _, pos := _, after := _, guard := _ }) (v := ?_) rfl (by kernel_rfl) (by kernel_rfl) (by kernel_rfl) (fun _ _ _ h => h) (Or.inl ⟨by rfl, ?_⟩) hHeld ?_
                      rotate_left
                      · (intro w hSw; have s0 := pw_cell_below hSw X0.out; go_simp) <;> (with_reducible rfl)
                      try simp only [Act.put, List.setIfInBounds_toArray, List.set_cons_zero, List.set_cons_succ]
                      refine wpAnyH_take (i := 7) (oi := { dst := some 120, op := _, type := _, pos := _, after := _, guard := _ }) (v := undef) rfl (by kernel_rfl) (by kernel_rfl) (by kernel_rfl) (fun _ _ _ h => h) (Or.inr ⟨by rfl, rfl⟩) hHeld ?_
                      try simp only [Act.put, List.setIfInBounds_toArray, List.set_cons_zero, List.set_cons_succ]
                      refine wpAnyH_take (i := 8) (oi := { dst := some 121, op := _, type := _, pos := _, after := _, guard := _ }) (v := undef) rfl (by kernel_rfl) (by kernel_rfl) (by kernel_rfl) (fun _ _ _ h => h) (Or.inr ⟨by rfl, rfl⟩) hHeld ?_
                      try simp only [Act.put, List.setIfInBounds_toArray, List.set_cons_zero, List.set_cons_succ]
                      refine wpAnyH_take (i := 9) (oi := { dst := some 122, op := _, type := _, pos := _, after := _, guard := _ }) (v := undef) rfl (by kernel_rfl) (by kernel_rfl) (by kernel_rfl) (fun _ _ _ h => h) (Or.inr ⟨by rfl, rfl⟩) hHeld ?_
                      try simp only [Act.put, List.setIfInBounds_toArray, List.set_cons_zero, List.set_cons_succ]
                      refine wpAnyH_take (i := 10) (oi := { dst := some 123, op := _, type := _, pos := _, after := _, guard := _ }) (v := undef) rfl (by kernel_rfl) (by kernel_rfl) (by kernel_rfl) (fun _ _ _ h => h) (Or.inr ⟨by rfl, rfl⟩) hHeld ?_
                      try simp only [Act.put, List.setIfInBounds_toArray, List.set_cons_zero, List.set_cons_succ]
                      refine wpAnyH_take (i := 11) (oi := { dst := some 124, op := _, type := _, pos := _, after := _, guard := _ }) (v := undef) rfl (by kernel_rfl) (by kernel_rfl) (by kernel_rfl) (fun _ _ _ h => h) (Or.inr ⟨by rfl, rfl⟩) hHeld ?_
                      try simp only [Act.put, List.setIfInBounds_toArray, List.set_cons_zero, List.set_cons_succ]
                      refine wpAnyH_take (i := 12) (oi := { dst := some 125, op := _, type := _, pos := _, after := _, guard := _ }) (v := undef) rfl (by kernel_rfl) (by kernel_rfl) (by kernel_rfl) (fun _ _ _ h => h) (Or.inr ⟨by rfl, rfl⟩) hHeld ?_
                      try simp only [Act.put, List.setIfInBounds_toArray, List.set_cons_zero, List.set_cons_succ]
                      refine wpAnyH_take (i := 13) (oi := { dst := some 126, op := _, type := _, pos := _, after := _, guard := _ }) (v := undef) rfl (by kernel_rfl) (by kernel_rfl) (by kernel_rfl) (fun _ _ _ h => h) (Or.inr ⟨by rfl, rfl⟩) hHeld ?_
                      try simp only [Act.put, List.setIfInBounds_toArray, List.set_cons_zero, List.set_cons_succ]
                      refine wpAnyH_take (i := 14) (oi := { dst := some 127, op := _, type := _, pos := _, after := _, guard := _ }) (v := undef) rfl (by kernel_rfl) (by kernel_rfl) (by kernel_rfl) (fun _ _ _ h => h) (Or.inr ⟨by rfl, rfl⟩) hHeld ?_
                      try simp only [Act.put, List.setIfInBounds_toArray, List.set_cons_zero, List.set_cons_succ]
                      refine wpAnyH_take (i := 15) (oi := { dst := some 128, op := _, type := _, pos := _, after := _, guard := _ }) (v := undef) rfl (by kernel_rfl) (by kernel_rfl) (by kernel_rfl) (fun _ _ _ h => h) (Or.inr ⟨by rfl, rfl⟩) hHeld ?_
                      try simp only [Act.put, List.setIfInBounds_toArray, List.set_cons_zero, List.set_cons_succ]
                      refine wpAnyH_take (i := 16) (oi := { dst := some 129, op := _, type := _, pos := _, after := _, guard := _ }) (v := ?_) rfl (by kernel_rfl) (by kernel_rfl) (by kernel_rfl) (fun _ _ _ h => h) (Or.inl ⟨by rfl, ?_⟩) hHeld ?_
                      rotate_left
                      · (intro w hSw; have s0 := pw_cell_below hSw X0.out; go_simp) <;> (with_reducible rfl)
                      try simp only [Act.put, List.setIfInBounds_toArray, List.set_cons_zero, List.set_cons_succ]
                      refine wpAnyH_done (by kernel_rfl) ?_ _
                      refine NoPanic.normal ?_
                      have B9 := Aside0.mk (below_drew (Below.refl wr.heap.size wr))
                      generalize wr.drew = w9 at B9 ⊢
                      have hx0 := pw_cell_below B9.out X0.out
                      have hx1 := pw_cell_below B9.out X1.out
                      have HO9 := Aside0.mk (Kd.N_below HO.out B9.out)
                      have K9 := Aside0.mk (blk_below KR.out B9.out)
                      have HB9 := Aside0.mk (HB.out.trans (B9.out.mono (Nat.le_of_lt hgw)))
                      have HBA9 := Aside0.mk (HBA.out.trans (B9.out.mono HBA.out.size))
                      go_wp2_with (first | ((with_reducible refine gate_builtin (b := .append) (xs := #[.tmp 134, .tmp 139]) rfl ?_); at_builtin; refine Kd.N_append kS (w0 := w5) gs rfl (.tmp 134) (.tmp 139) 22 39 (.agg #[.string ⟨#[]⟩, .slice none 0 0]) 40 rfl Tryd.underlying22 infoS rfl (by decide) (by omega) (.slice A12 os.length c12) os (⟨xn, xv⟩ : Sc) [.string xn, .slice A1 xv.length c1] (fun k => k ≠ gs) (fun k => k < w.heap.size) rfl rfl (Foot.imp (Kd.F_step FI.out (fun k hk _ => HBA9.out.block k hk)) (fun W' hC => k39_mk W' ⟨xn, xv⟩ hl1 hC)) (fun k hk => ⟨by omega, fun h => by have := Kd.N_base HO9.out k h.symm; omega⟩) (fun k hk => by have := blk_lt K9.out; omega) HO9.out HB9.out ?aS ?aL ?_; (case aS => have := blk_lt K9.out; omega); (case aL => omega); intro v1 w10 ho hb hg hat; have KR2 := Aside0.mk ((hg.block gs (blk_lt K9.out) (Kd.N_away HO9.out (fun _ h => h))).trans K9.out); generalize hos : os ++ [(⟨xn, xv⟩ : Sc)] = os2 at ho ⊢; have HOS2 := Aside0.mk hos.symm; clear hos; obtain ⟨A13, c13, rfl⟩ := Kd.N_slice ho; have HO2 := Aside0.mk ho; have HB2 := Aside0.mk hb; clear ho hb hg hat) | fail)
                      go_roundg (l.length - (i + 1))
                      case measure => have := HK.out; omega
                      case rel => exact ⟨i + 1, A13, c13, os2, rfl, by first | rfl | (simp; omega) | (simp; done), by first | rfl | (rw [HWL.out]), by omega, ⟨by omega⟩, ⟨HOS2.out.trans HOS1.out.symm⟩, HO2, ⟨nm0, fun h => HNM0.out (by omega), KR2.out⟩, HB2⟩
                    | false =>
                      --ARM2
                      obtain rfl := HAT0.out rfl
                      have hne : ¬ (i : Int) = -1 := by omega
                      have HLS := Aside0.mk (HL1.out hlt0)
                      clear HL1
                      go_wp2_with fail
                      have X0 := Aside0.mk hx0
                      have X1 := Aside0.mk hx1
                      clear hx0 hx1
                      refine wp_region_noPanic ?_
                      refine wp_region_held_drew (S := fun W => Below wr.heap.size wr W) (by kernel_rfl) (below_drew (Below.refl _ _)) (fun hHeld => ?_)
                      refine wpAnyH_take (i := 0) (oi := { dst := some 113, op := _, type := _, pos := _, after := _, guard := _ }) (v := ?_) rfl (by kernel_rfl) (by kernel_rfl) (by kernel_rfl) (fun _ _ _ h => h) (Or.inl ⟨by rfl, ?_⟩) hHeld ?_
                      rotate_left
                      · (intro w hSw; have s0 := pw_cell_below hSw X0.out; go_simp) <;> (with_reducible rfl)
                      try simp only [Act.put, List.setIfInBounds_toArray, List.set_cons_zero, List.set_cons_succ]
                      refine wpAnyH_take (i := 1) (oi := { dst := some 114, op := _, type := _, pos := _, after := _, guard := _ }) (v := ?_) rfl (by kernel_rfl) (by kernel_rfl) (by kernel_rfl) (fun _ _ _ h => h) (Or.inl ⟨by rfl, ?_⟩) hHeld ?_
                      rotate_left
                      · (intro w hSw; have s0 := pw_cell_below hSw X0.out; go_simp) <;> (with_reducible rfl)
                      try simp only [Act.put, List.setIfInBounds_toArray, List.set_cons_zero, List.set_cons_succ]
                      refine wpAnyH_take (i := 2) (oi := { dst := some 115, op := _, type := _, pos := _, after := _, guard := _ }) (v := ?_) rfl (by kernel_rfl) (by kernel_rfl) (by kernel_rfl) (fun _ _ _ h => h) (Or.inl ⟨by rfl, ?_⟩) hHeld ?_
                      rotate_left
                      · (intro w hSw; have s0 := pw_cell_below hSw X0.out; go_simp) <;> (with_reducible rfl)
                      try simp only [Act.put, List.setIfInBounds_toArray, List.set_cons_zero, List.set_cons_succ]
                      refine wpAnyH_take (i := 3) (oi := { dst := some 116, op := _, type := _, pos := _, after := _, guard := _ }) (v := ?_) rfl (by kernel_rfl) (by kernel_rfl) (by kernel_rfl) (fun _ _ _ h => h) (Or.inl ⟨by rfl, ?_⟩) hHeld ?_
                      rotate_left
                      · (intro w hSw; have s0 := pw_cell_below hSw X0.out; go_simp) <;> (with_reducible rfl)
                      try simp only [Act.put, List.setIfInBounds_toArray, List.set_cons_zero, List.set_cons_succ]
                      refine wpAnyH_take (i := 4) (oi := { dst := some 117, op := _, type := _, pos := _, after := _, guard := _ }) (v := ?_) rfl (by kernel_rfl) (by kernel_rfl) (by kernel_rfl) (fun _ _ _ h => h) (Or.inl ⟨by rfl, ?_⟩) hHeld ?_
                      rotate_left
                      · (intro w hSw; have s0 := pw_cell_below hSw X0.out; go_simp) <;> (with_reducible rfl)
                      try simp only [Act.put, List.setIfInBounds_toArray, List.set_cons_zero, List.set_cons_succ]
                      refine wpAnyH_take (i := 5) (oi := { dst := some 118, op := _, type := _, pos := _, after := _, guard := _ }) (v := ?_) rfl (by kernel_rfl) (by kernel_rfl) (by kernel_rfl) (fun _ _ _ h => h) (Or.inl ⟨by rfl, ?_⟩) hHeld ?_
                      rotate_left
                      · (intro w hSw; have s0 := pw_cell_below hSw X0.out; go_simp) <;> (with_reducible rfl)
                      try simp only [Act.put, List.setIfInBounds_toArray, List.set_cons_zero, List.set_cons_succ]
                      refine wpAnyH_take (i := 6) (oi := { dst := some 119, op := _, type := _, pos := _, after := _, guard := _ }) (v := ?_) rfl (by kernel_rfl) (by kernel_rfl) (by kernel_rfl) (fun _ _ _ h => h) (Or.inl ⟨by rfl, ?_⟩) hHeld ?_
                      rotate_left
                      · (intro w hSw; have s0 := pw_cell_below hSw X0.out; go_simp) <;> (with_reducible rfl)
                      try simp only [Act.put, List.setIfInBounds_toArray, List.set_cons_zero, List.set_cons_succ]
                      refine wpAnyH_take (i := 7) (oi := { dst := some 120, op := _, type := _, pos := _, after := _, guard := _ }) (v := ?_) rfl (by kernel_rfl) (by kernel_rfl) (by kernel_rfl) (fun _ _ _ h => h) (Or.inl ⟨by rfl, ?_⟩) hHeld ?_
                      rotate_left
                      · (intro w hSw; have s0 := pw_cell_below hSw X0.out; go_simp) <;> (with_reducible rfl)
                      try simp only [Act.put, List.setIfInBounds_toArray, List.set_cons_zero, List.set_cons_succ]
                      refine wpAnyH_take (i := 9) (oi := { dst := some 122, op := _, type := _, pos := _, after := _, guard := _ }) (v := ?_) rfl (by kernel_rfl) (by kernel_rfl) (by kernel_rfl) (fun _ _ _ h => h) (Or.inl ⟨by rfl, ?_⟩) hHeld ?_
                      rotate_left
                      · (intro w hSw; have s0 := pw_cell_below hSw X0.out; go_simp) <;> (with_reducible rfl)
                      try simp only [Act.put, List.setIfInBounds_toArray, List.set_cons_zero, List.set_cons_succ]
                      refine wpAnyH_take (i := 10) (oi := { dst := some 123, op := _, type := _, pos := _, after := _, guard := _ }) (v := ?_) rfl (by kernel_rfl) (by kernel_rfl) (by kernel_rfl) (fun _ _ _ h => h) (Or.inl ⟨by rfl, ?_⟩) hHeld ?_
                      rotate_left
                      · (intro w hSw; have s0 := pw_cell_below hSw X0.out; go_simp) <;> (with_reducible rfl)
                      try simp only [Act.put, List.setIfInBounds_toArray, List.set_cons_zero, List.set_cons_succ]
                      refine wpAnyH_take (i := 11) (oi := { dst := some 124, op := _, type := _, pos := _, after := _, guard := _ }) (v := ?_) rfl (by kernel_rfl) (by kernel_rfl) (by kernel_rfl) (fun _ _ _ h => h) (Or.inl ⟨by rfl, ?_⟩) hHeld ?_
                      rotate_left
                      · (intro w hSw; have s0 := pw_cell_below hSw X0.out; go_simp) <;> (with_reducible rfl)
                      try simp only [Act.put, List.setIfInBounds_toArray, List.set_cons_zero, List.set_cons_succ]
                      refine wpAnyH_take (i := 12) (oi := { dst := some 125, op := _, type := _, pos := _, after := _, guard := _ }) (v := ?_) rfl (by kernel_rfl) (by kernel_rfl) (by kernel_rfl) (fun _ _ _ h => h) (Or.inl ⟨by rfl, ?_⟩) hHeld ?_
                      rotate_left
                      · (intro w hSw; have s0 := pw_cell_below hSw X0.out; go_simp) <;> (with_reducible rfl)
                      try simp only [Act.put, List.setIfInBounds_toArray, List.set_cons_zero, List.set_cons_succ]
                      refine wpAnyH_take (i := 13) (oi := { dst := some 126, op := _, type := _, pos := _, after := _, guard := _ }) (v := ?_) rfl (by kernel_rfl) (by kernel_rfl) (by kernel_rfl) (fun _ _ _ h => h) (Or.inl ⟨by rfl, ?_⟩) hHeld ?_
                      rotate_left
                      · (intro w hSw; have s0 := pw_cell_below hSw X0.out; go_simp) <;> (with_reducible rfl)
                      try simp only [Act.put, List.setIfInBounds_toArray, List.set_cons_zero, List.set_cons_succ]
                      refine wpAnyH_ready (rs := [8]) (by kernel_rfl) (by simp) (AllReadyH.cons (o := { dst := some 121, op := _, type := _, pos := _, after := _, guard := _ }) rfl (fun K hK => ?_) AllReadyH.nil)
                      go_simp
                      refine (scriniumref22_plain.calls 14000 name (pf name) wr.drew (plain_is name 14000 hn (by omega))).mono ?_
                      rintro e w7 ⟨rfl, hbl⟩
                      have B7 := Aside0.mk ((below_drew (Below.refl _ _)).trans hbl)
                      clear hbl
                      refine hK.out _ _ (B7.out) (fun hHeld2 => ?_)
                      clear hK K hHeld
                      have hHeld := hHeld2
                      clear hHeld2
                      try simp only [Act.put, List.setIfInBounds_toArray, List.set_cons_zero, List.set_cons_succ]
                      refine wpAnyH_ready (rs := [14]) (by kernel_rfl) (by simp) (AllReadyH.cons (o := { dst := some 127, op := _, type := _, pos := _, after := _, guard := _ }) rfl (fun K hK => ?_) AllReadyH.nil)
                      go_simp
                      refine (scriniumref22_plain.calls 14000 xn (pf xn) w7 (plain_is xn 14000 HSZ.out (by omega))).mono ?_
                      rintro e w8 ⟨rfl, hbl⟩
                      have B8 := Aside0.mk (B7.out.trans (hbl.mono B7.out.size))
                      clear hbl
                      refine hK.out _ _ (B8.out) (fun hHeld2 => ?_)
                      clear hK K hHeld
                      have hHeld := hHeld2
                      clear hHeld2
                      try simp only [Act.put, List.setIfInBounds_toArray, List.set_cons_zero, List.set_cons_succ]
                      refine wpAnyH_ready (rs := [15]) (by kernel_rfl) (by simp) (AllReadyH.cons (o := { dst := some 128, op := _, type := _, pos := _, after := _, guard := _ }) rfl (fun K hK => ?_) AllReadyH.nil)
                      go_simp
                      refine (scriniumref10_Less.calls 14000 (pf name) (pf xn) _ w8 (less_is _ _ 14000 (pf_size _ hn) (pf_size _ HSZ.out) (by omega))).mono ?_
                      rintro e w9 ⟨rfl, hbl⟩
                      have B9 := Aside0.mk (B8.out.trans (hbl.mono B8.out.size))
                      clear hbl
                      have el : lessL (runes (BL (pf name))) (runes (BL (pf xn))) = false := HLS.out
                      rw [el]
                      refine hK.out _ _ (B9.out) (fun hHeld2 => ?_)
                      clear hK K hHeld
                      have hHeld := hHeld2
                      clear hHeld2
                      try simp only [Act.put, List.setIfInBounds_toArray, List.set_cons_zero, List.set_cons_succ]
                      refine wpAnyH_take (i := 16) (oi := { dst := some 129, op := _, type := _, pos := _, after := _, guard := _ }) (v := ?_) rfl (by kernel_rfl) (by kernel_rfl) (by kernel_rfl) (fun _ _ _ h => h) (Or.inl ⟨by rfl, ?_⟩) hHeld ?_
                      rotate_left
                      · (intro w hSw; have s0 := pw_cell_below hSw X0.out; go_simp) <;> (with_reducible rfl)
                      try simp only [Act.put, List.setIfInBounds_toArray, List.set_cons_zero, List.set_cons_succ]
                      refine wpAnyH_done (by kernel_rfl) ?_ _
                      refine NoPanic.normal ?_
                      have hx0 := pw_cell_below B9.out X0.out
                      have hx1 := pw_cell_below B9.out X1.out
                      have HO9 := Aside0.mk (Kd.N_below HO.out B9.out)
                      have K9 := Aside0.mk (blk_below KR.out B9.out)
                      have HB9 := Aside0.mk (HB.out.trans (B9.out.mono (Nat.le_of_lt hgw)))
                      have HBA9 := Aside0.mk (HBA.out.trans (B9.out.mono HBA.out.size))
                      go_wp2_with (first | ((with_reducible refine gate_builtin (b := .append) (xs := #[.tmp 134, .tmp 139]) rfl ?_); at_builtin; refine Kd.N_append kS (w0 := w5) gs rfl (.tmp 134) (.tmp 139) 22 39 (.agg #[.string ⟨#[]⟩, .slice none 0 0]) 40 rfl Tryd.underlying22 infoS rfl (by decide) (by omega) (.slice A12 os.length c12) os (⟨xn, xv⟩ : Sc) [.string xn, .slice A1 xv.length c1] (fun k => k ≠ gs) (fun k => k < w.heap.size) rfl rfl (Foot.imp (Kd.F_step FI.out (fun k hk _ => HBA9.out.block k hk)) (fun W' hC => k39_mk W' ⟨xn, xv⟩ hl1 hC)) (fun k hk => ⟨by omega, fun h => by have := Kd.N_base HO9.out k h.symm; omega⟩) (fun k hk => by have := blk_lt K9.out; omega) HO9.out HB9.out ?aS ?aL ?_; (case aS => have := blk_lt K9.out; omega); (case aL => omega); intro v1 w10 ho hb hg hat; have KR2 := Aside0.mk ((hg.block gs (blk_lt K9.out) (Kd.N_away HO9.out (fun _ h => h))).trans K9.out); generalize hos : os ++ [(⟨xn, xv⟩ : Sc)] = os2 at ho ⊢; have HOS2 := Aside0.mk hos.symm; clear hos; obtain ⟨A13, c13, rfl⟩ := Kd.N_slice ho; have HO2 := Aside0.mk ho; have HB2 := Aside0.mk hb; clear ho hb hg hat) | fail)
                      go_roundg (l.length - (i + 1))
                      case measure => have := HK.out; omega
                      case rel => exact ⟨i + 1, A13, c13, os2, rfl, by first | rfl | (simp; omega) | (simp; done), by first | rfl | (rw [HWL.out]), by omega, ⟨by omega⟩, ⟨HOS2.out.trans HOS1.out.symm⟩, HO2, ⟨nm0, fun h => HNM0.out (by omega), KR2.out⟩, HB2⟩
                  · have heq1 := heq0.symm
                    clear heq0
                    subst heq1
                    rw [decide_eq_false (by omega)]
                    have hnm := HNM0.out (by omega)
                    have s0 := (blk_cell KR.out 0).trans (show _ = some (Value.string nm0) from rfl)
                    have s1 := (blk_cell KR.out 1).trans (show _ = some (Value.slice A6 us2.length c6) from rfl)
                    cases t with
                    | true =>
                      --ARM3
                      obtain rfl := HAT1.out rfl
                      have HOS1 := Aside0.mk (HST.out rfl rfl)
                      have hz0 := blk_frozen KR.out 0
                      have K9 := Aside0.mk (blk_put KR.out 0 (.string xn) rfl)
                      have HO9 := Aside0.mk (Kd.N_far (p := ⟨gs, 0, none⟩) HO.out (fun k hk => hk) (.string xn))
                      have HB9 : Aside0 (Below gs w5 (wr.setCell ⟨gs, 0, none⟩ (.string xn))) := ⟨HB.out.setCell (Nat.le_refl gs) _⟩
                      have s2 := (blk_cell K9.out 0).trans (show _ = some (Value.string xn) from rfl)
                      have s3 := (blk_cell K9.out 1).trans (show _ = some (Value.slice A6 us2.length c6) from rfl)
                      clear HOT HST HSN HL1 HL2 HL3 hnm
                      go_upto_region 32 with fail
                      generalize wr.setCell ⟨gs, 0, none⟩ (.string xn) = w9 at K9 HO9 HB9 s2 s3 ⊢
                      clear s0 s1
                      go_wp2_with (first | ((with_reducible refine gate_builtin (b := .append) (xs := #[.tmp 109, .tmp 111]) rfl ?_); at_builtin; refine Kd.N_append kS (w0 := w5) gs rfl (.tmp 109) (.tmp 111) 22 39 (.agg #[.string ⟨#[]⟩, .slice none 0 0]) 40 rfl Tryd.underlying22 infoS rfl (by decide) (by omega) (.slice A12 os.length c12) os (⟨xn, us2⟩ : Sc) [.string xn, .slice A6 us2.length c6] (fun k => k ≠ gs) (fun k => k < gs) rfl rfl (Foot.imp (Kd.F_step FA.out (fun k hk _ => HB9.out.block k hk)) (fun W' hC => k39_mk W' ⟨xn, us2⟩ hc6 hC)) (fun k hk => ⟨by omega, fun h => by have := Kd.N_base HO9.out k h.symm; omega⟩) (fun k hk => by have := blk_lt K9.out; omega) HO9.out HB9.out ?aS ?aL ?_; (case aS => have := blk_lt K9.out; omega); (case aL => omega); intro v1 w10 ho hb hg hat; have KR2 := Aside0.mk ((hg.block gs (blk_lt K9.out) (Kd.N_away HO9.out (fun _ h => h))).trans K9.out); generalize hos : os ++ [(⟨xn, us2⟩ : Sc)] = os2 at ho ⊢; have HOS2 := Aside0.mk hos.symm; clear hos; obtain ⟨A13, c13, rfl⟩ := Kd.N_slice ho; have HO2 := Aside0.mk ho; have HB2 := Aside0.mk hb; clear ho hb hg hat) | fail)
                      go_roundg (l.length - (i0 + 1))
                      case measure => have := HK.out; omega
                      case rel => exact ⟨i0 + 1, A13, c13, os2, rfl, by first | rfl | (simp; omega) | (simp; done), by first | rfl | (rw [HWL.out]), by omega, ⟨by omega⟩, ⟨HOS2.out.trans HOS1.out.symm⟩, HO2, ⟨xn, fun h => absurd h (by omega), KR2.out⟩, HB2⟩
                    | false =>
                      --ARM4
                      obtain rfl := HAT0.out rfl
                      have hne : ¬ (i0 : Int) = -1 := by omega
                      have HLS := Aside0.mk (HL2.out rfl rfl)
                      have HOS1 := Aside0.mk (HSN.out rfl rfl)
                      have HNM := Aside0.mk hnm
                      clear HOT HST HSN HL1 HL2 HL3 s0 s1 hnm
                      go_wp2_with fail
                      have X0 := Aside0.mk hx0
                      have X1 := Aside0.mk hx1
                      clear hx0 hx1
                      refine wp_region_noPanic ?_
                      refine wp_region_held_drew (S := fun W => Below wr.heap.size wr W) (by kernel_rfl) (below_drew (Below.refl _ _)) (fun hHeld => ?_)
                      refine wpAnyH_take (i := 0) (oi := { dst := some 113, op := _, type := _, pos := _, after := _, guard := _ }) (v := ?_) rfl (by kernel_rfl) (by kernel_rfl) (by kernel_rfl) (fun _ _ _ h => h) (Or.inl ⟨by rfl, ?_⟩) hHeld ?_
                      rotate_left
                      · (intro w hSw; have s0 := pw_cell_below hSw X0.out; go_simp) <;> (with_reducible rfl)
                      try simp only [Act.put, List.setIfInBounds_toArray, List.set_cons_zero, List.set_cons_succ]
                      refine wpAnyH_take (i := 1) (oi := { dst := some 114, op := _, type := _, pos := _, after := _, guard := _ }) (v := ?_) rfl (by kernel_rfl) (by kernel_rfl) (by kernel_rfl) (fun _ _ _ h => h) (Or.inl ⟨by rfl, ?_⟩) hHeld ?_
                      rotate_left
                      · (intro w hSw; have s0 := pw_cell_below hSw X0.out; go_simp) <;> (with_reducible rfl)
                      try simp only [Act.put, List.setIfInBounds_toArray, List.set_cons_zero, List.set_cons_succ]
                      refine wpAnyH_take (i := 2) (oi := { dst := some 115, op := _, type := _, pos := _, after := _, guard := _ }) (v := ?_) rfl (by kernel_rfl) (by kernel_rfl) (by kernel_rfl) (fun _ _ _ h => h) (Or.inl ⟨by rfl, ?_⟩) hHeld ?_
                      rotate_left
                      · (intro w hSw; have s0 := pw_cell_below hSw X0.out; go_simp) <;> (with_reducible rfl)
                      try simp only [Act.put, List.setIfInBounds_toArray, List.set_cons_zero, List.set_cons_succ]
                      refine wpAnyH_take (i := 3) (oi := { dst := some 116, op := _, type := _, pos := _, after := _, guard := _ }) (v := ?_) rfl (by kernel_rfl) (by kernel_rfl) (by kernel_rfl) (fun _ _ _ h => h) (Or.inl ⟨by rfl, ?_⟩) hHeld ?_
                      rotate_left
                      · (intro w hSw; have s0 := pw_cell_below hSw X0.out; go_simp) <;> (with_reducible rfl)
                      try simp only [Act.put, List.setIfInBounds_toArray, List.set_cons_zero, List.set_cons_succ]
                      refine wpAnyH_take (i := 4) (oi := { dst := some 117, op := _, type := _, pos := _, after := _, guard := _ }) (v := ?_) rfl (by kernel_rfl) (by kernel_rfl) (by kernel_rfl) (fun _ _ _ h => h) (Or.inl ⟨by rfl, ?_⟩) hHeld ?_
                      rotate_left
                      · (intro w hSw; have s0 := pw_cell_below hSw X0.out; go_simp) <;> (with_reducible rfl)
                      try simp only [Act.put, List.setIfInBounds_toArray, List.set_cons_zero, List.set_cons_succ]
                      refine wpAnyH_take (i := 5) (oi := { dst := some 118, op := _, type := _, pos := _, after := _, guard := _ }) (v := ?_) rfl (by kernel_rfl) (by kernel_rfl) (by kernel_rfl) (fun _ _ _ h => h) (Or.inl ⟨by rfl, ?_⟩) hHeld ?_
                      rotate_left
                      · (intro w hSw; have s0 := pw_cell_below hSw X0.out; go_simp) <;> (with_reducible rfl)
                      try simp only [Act.put, List.setIfInBounds_toArray, List.set_cons_zero, List.set_cons_succ]
                      refine wpAnyH_take (i := 6) (oi := { dst := some 119, op := _, type := _, pos := _, after := _, guard := _ }) (v := ?_) rfl (by kernel_rfl) (by kernel_rfl) (by kernel_rfl) (fun _ _ _ h => h) (Or.inl ⟨by rfl, ?_⟩) hHeld ?_
                      rotate_left
                      · (intro w hSw; have s0 := pw_cell_below hSw X0.out; go_simp) <;> (with_reducible rfl)
                      try simp only [Act.put, List.setIfInBounds_toArray, List.set_cons_zero, List.set_cons_succ]
                      refine wpAnyH_take (i := 7) (oi := { dst := some 120, op := _, type := _, pos := _, after := _, guard := _ }) (v := ?_) rfl (by kernel_rfl) (by kernel_rfl) (by kernel_rfl) (fun _ _ _ h => h) (Or.inl ⟨by rfl, ?_⟩) hHeld ?_
                      rotate_left
                      · (intro w hSw; have s0 := pw_cell_below hSw X0.out; go_simp) <;> (with_reducible rfl)
                      try simp only [Act.put, List.setIfInBounds_toArray, List.set_cons_zero, List.set_cons_succ]
                      refine wpAnyH_take (i := 9) (oi := { dst := some 122, op := _, type := _, pos := _, after := _, guard := _ }) (v := ?_) rfl (by kernel_rfl) (by kernel_rfl) (by kernel_rfl) (fun _ _ _ h => h) (Or.inl ⟨by rfl, ?_⟩) hHeld ?_
                      rotate_left
                      · (intro w hSw; have s0 := pw_cell_below hSw X0.out; go_simp) <;> (with_reducible rfl)
                      try simp only [Act.put, List.setIfInBounds_toArray, List.set_cons_zero, List.set_cons_succ]
                      refine wpAnyH_take (i := 10) (oi := { dst := some 123, op := _, type := _, pos := _, after := _, guard := _ }) (v := ?_) rfl (by kernel_rfl) (by kernel_rfl) (by kernel_rfl) (fun _ _ _ h => h) (Or.inl ⟨by rfl, ?_⟩) hHeld ?_
                      rotate_left
                      · (intro w hSw; have s0 := pw_cell_below hSw X0.out; go_simp) <;> (with_reducible rfl)
                      try simp only [Act.put, List.setIfInBounds_toArray, List.set_cons_zero, List.set_cons_succ]
                      refine wpAnyH_take (i := 11) (oi := { dst := some 124, op := _, type := _, pos := _, after := _, guard := _ }) (v := ?_) rfl (by kernel_rfl) (by kernel_rfl) (by kernel_rfl) (fun _ _ _ h => h) (Or.inl ⟨by rfl, ?_⟩) hHeld ?_
                      rotate_left
                      · (intro w hSw; have s0 := pw_cell_below hSw X0.out; go_simp) <;> (with_reducible rfl)
                      try simp only [Act.put, List.setIfInBounds_toArray, List.set_cons_zero, List.set_cons_succ]
                      refine wpAnyH_take (i := 12) (oi := { dst := some 125, op := _, type := _, pos := _, after := _, guard := _ }) (v := ?_) rfl (by kernel_rfl) (by kernel_rfl) (by kernel_rfl) (fun _ _ _ h => h) (Or.inl ⟨by rfl, ?_⟩) hHeld ?_
                      rotate_left
                      · (intro w hSw; have s0 := pw_cell_below hSw X0.out; go_simp) <;> (with_reducible rfl)
                      try simp only [Act.put, List.setIfInBounds_toArray, List.set_cons_zero, List.set_cons_succ]
                      refine wpAnyH_take (i := 13) (oi := { dst := some 126, op := _, type := _, pos := _, after := _, guard := _ }) (v := ?_) rfl (by kernel_rfl) (by kernel_rfl) (by kernel_rfl) (fun _ _ _ h => h) (Or.inl ⟨by rfl, ?_⟩) hHeld ?_
                      rotate_left
                      · (intro w hSw; have s0 := pw_cell_below hSw X0.out; go_simp) <;> (with_reducible rfl)
                      try simp only [Act.put, List.setIfInBounds_toArray, List.set_cons_zero, List.set_cons_succ]
                      refine wpAnyH_ready (rs := [8]) (by kernel_rfl) (by simp) (AllReadyH.cons (o := { dst := some 121, op := _, type := _, pos := _, after := _, guard := _ }) rfl (fun K hK => ?_) AllReadyH.nil)
                      go_simp
                      refine (scriniumref22_plain.calls 14000 name (pf name) wr.drew (plain_is name 14000 hn (by omega))).mono ?_
                      rintro e w7 ⟨rfl, hbl⟩
                      have B7 := Aside0.mk ((below_drew (Below.refl _ _)).trans hbl)
                      clear hbl
                      refine hK.out _ _ (B7.out) (fun hHeld2 => ?_)
                      clear hK K hHeld
                      have hHeld := hHeld2
                      clear hHeld2
                      try simp only [Act.put, List.setIfInBounds_toArray, List.set_cons_zero, List.set_cons_succ]
                      refine wpAnyH_ready (rs := [14]) (by kernel_rfl) (by simp) (AllReadyH.cons (o := { dst := some 127, op := _, type := _, pos := _, after := _, guard := _ }) rfl (fun K hK => ?_) AllReadyH.nil)
                      go_simp
                      refine (scriniumref22_plain.calls 14000 xn (pf xn) w7 (plain_is xn 14000 HSZ.out (by omega))).mono ?_
                      rintro e w8 ⟨rfl, hbl⟩
                      have B8 := Aside0.mk (B7.out.trans (hbl.mono B7.out.size))
                      clear hbl
                      refine hK.out _ _ (B8.out) (fun hHeld2 => ?_)
                      clear hK K hHeld
                      have hHeld := hHeld2
                      clear hHeld2
                      try simp only [Act.put, List.setIfInBounds_toArray, List.set_cons_zero, List.set_cons_succ]
                      refine wpAnyH_ready (rs := [15]) (by kernel_rfl) (by simp) (AllReadyH.cons (o := { dst := some 128, op := _, type := _, pos := _, after := _, guard := _ }) rfl (fun K hK => ?_) AllReadyH.nil)
                      go_simp
                      refine (scriniumref10_Less.calls 14000 (pf name) (pf xn) _ w8 (less_is _ _ 14000 (pf_size _ hn) (pf_size _ HSZ.out) (by omega))).mono ?_
                      rintro e w9 ⟨rfl, hbl⟩
                      have B9 := Aside0.mk (B8.out.trans (hbl.mono B8.out.size))
                      clear hbl
                      have el : lessL (runes (BL (pf name))) (runes (BL (pf xn))) = true := HLS.out
                      rw [el]
                      refine hK.out _ _ (B9.out) (fun hHeld2 => ?_)
                      clear hK K hHeld
                      have hHeld := hHeld2
                      clear hHeld2
                      try simp only [Act.put, List.setIfInBounds_toArray, List.set_cons_zero, List.set_cons_succ]
                      refine wpAnyH_take (i := 16) (oi := { dst := some 129, op := _, type := _, pos := _, after := _, guard := _ }) (v := ?_) rfl (by kernel_rfl) (by kernel_rfl) (by kernel_rfl) (fun _ _ _ h => h) (Or.inl ⟨by rfl, ?_⟩) hHeld ?_
                      rotate_left
                      · (intro w hSw; have s0 := pw_cell_below hSw X0.out; go_simp) <;> (with_reducible rfl)
                      try simp only [Act.put, List.setIfInBounds_toArray, List.set_cons_zero, List.set_cons_succ]
                      refine wpAnyH_done (by kernel_rfl) ?_ _
                      refine NoPanic.normal ?_
                      have hx0 := pw_cell_below B9.out X0.out
                      have hx1 := pw_cell_below B9.out X1.out
                      have HO9 := Aside0.mk (Kd.N_below HO.out B9.out)
                      have K9 := Aside0.mk (blk_below KR.out B9.out)
                      have HB9 := Aside0.mk (HB.out.trans (B9.out.mono (Nat.le_of_lt hgw)))
                      have HBA9 := Aside0.mk (HBA.out.trans (B9.out.mono HBA.out.size))
                      have s0 := (blk_cell K9.out 0).trans (show _ = some (Value.string nm0) from rfl)
                      have s1 := (blk_cell K9.out 1).trans (show _ = some (Value.slice A6 us2.length c6) from rfl)
                      go_wp2_with (first | (first | ((with_reducible refine gate_builtin (b := .append) (xs := #[.tmp 130, .tmp 132]) rfl ?_); at_builtin; refine Kd.N_append kS (w0 := w5) gs rfl (.tmp 130) (.tmp 132) 22 39 (.agg #[.string ⟨#[]⟩, .slice none 0 0]) 40 rfl Tryd.underlying22 infoS rfl (by decide) (by omega) (.slice A12 os.length c12) os (⟨nm0, us2⟩ : Sc) [.string nm0, .slice A6 us2.length c6] (fun k => k ≠ gs) (fun k => k < gs) rfl rfl (Foot.imp (Kd.F_step FA.out (fun k hk _ => HB9.out.block k hk)) (fun W' hC => k39_mk W' ⟨nm0, us2⟩ hc6 hC)) (fun k hk => ⟨by omega, fun h => by have := Kd.N_base HO9.out k h.symm; omega⟩) (fun k hk => by have := blk_lt K9.out; omega) HO9.out HB9.out ?aS ?aL ?_; (case aS => have := blk_lt K9.out; omega); (case aL => omega); intro v1 w10 ho hb hg hat; have KR2 := Aside0.mk ((hg.block gs (blk_lt K9.out) (Kd.N_away HO9.out (fun _ h => h))).trans K9.out); generalize hos : os ++ [(⟨nm0, us2⟩ : Sc)] = os2 at ho ⊢; have HOS2 := Aside0.mk hos.symm; clear hos; obtain ⟨A13, c13, rfl⟩ := Kd.N_slice ho; have HO2 := Aside0.mk ho; have HB2 := Aside0.mk hb; have hol2 : os2.length ≤ i0 + 2 := (by have := len_snoc HOS2.out; omega); have HBA2 := Aside0.mk (B5.out.trans (hb.mono hge)); have hx2 := Kd.cell_heap (fun k hk => HBA2.out.block k hk) XI0.out; have hx3 := Kd.cell_heap (fun k hk => HBA2.out.block k hk) XI1.out; clear ho hb hg hat) | fail) | (first | ((with_reducible refine gate_builtin (b := .append) (xs := #[.tmp 134, .tmp 139]) rfl ?_); at_builtin; refine Kd.N_append kS (w0 := w5) gs rfl (.tmp 134) (.tmp 139) 22 39 (.agg #[.string ⟨#[]⟩, .slice none 0 0]) 40 rfl Tryd.underlying22 infoS rfl (by decide) (by omega) (.slice A13 os2.length c13) os2 (⟨xn, xv⟩ : Sc) [.string xn, .slice A1 xv.length c1] (fun k => k ≠ gs) (fun k => k < w.heap.size) rfl rfl (Foot.imp (Kd.F_step FI.out (fun k hk _ => HBA2.out.block k hk)) (fun W' hC => k39_mk W' ⟨xn, xv⟩ hl1 hC)) (fun k hk => ⟨by omega, fun h => by have := Kd.N_base HO2.out k h.symm; omega⟩) (fun k hk => by have := blk_lt KR2.out; omega) HO2.out HB2.out ?aS ?aL ?_; (case aS => have := blk_lt KR2.out; omega); (case aL => omega); intro v1 w11 ho hb hg hat; have KR3 := Aside0.mk ((hg.block gs (blk_lt KR2.out) (Kd.N_away HO2.out (fun _ h => h))).trans KR2.out); generalize hos : os2 ++ [(⟨xn, xv⟩ : Sc)] = os3 at ho ⊢; have HOS3 := Aside0.mk hos.symm; clear hos; obtain ⟨A14, c14, rfl⟩ := Kd.N_slice ho; have HO3 := Aside0.mk ho; have HB3 := Aside0.mk hb; clear ho hb hg hat) | fail))
                      go_roundg (l.length - (i0 + 1))
                      case measure => have := HK.out; omega
                      case rel => exact ⟨i0 + 1, A14, c14, os3, rfl, by first | rfl | (simp; omega) | (simp; done), by first | rfl | (rw [HWL.out]), by omega, ⟨by omega⟩, ⟨by rw [HOS3.out, HOS2.out, HNM.out]; exact HOS1.out.symm⟩, HO3, ⟨nm0, fun h => absurd h (by omega), KR3.out⟩, HB3⟩
                  · rw [decide_eq_true (by omega)]
                    have hos1 := HOT.out (by omega)
                    have HOS1 := Aside0.mk hos1
                    have hne : ¬ (i : Int) = at_ := by
                      cases t with
                      | true => rw [HAT1.out rfl]; omega
                      | false => rw [HAT0.out rfl]; omega
                    --ARM5
                    clear hos1 HOT HST HSN HL1 HL2 HL3
                    go_wp2_with fail
                    have X0 := Aside0.mk hx0
                    have X1 := Aside0.mk hx1
                    clear hx0 hx1
                    refine wp_region_noPanic ?_
                    refine wp_region_held_drew (S := fun W => Below wr.heap.size wr W) (by kernel_rfl) (below_drew (Below.refl _ _)) (fun hHeld => ?_)
                    refine wpAnyH_take (i := 0) (oi := { dst := some 113, op := _, type := _, pos := _, after := _, guard := _ }) (v := ?_) rfl (by kernel_rfl) (by kernel_rfl) (by kernel_rfl) (fun _ _ _ h => h) (Or.inl ⟨by rfl, ?_⟩) hHeld ?_
                    rotate_left
                    · (intro w hSw; have s0 := pw_cell_below hSw X0.out; go_simp) <;> (with_reducible rfl)
                    try simp only [Act.put, List.setIfInBounds_toArray, List.set_cons_zero, List.set_cons_succ]
                    refine wpAnyH_take (i := 1) (oi := { dst := some 114, op := _, type := _, pos := _, after := _, guard := _ }) (v := ?_) rfl (by kernel_rfl) (by kernel_rfl) (by kernel_rfl) (fun _ _ _ h => h) (Or.inl ⟨by rfl, ?_⟩) hHeld ?_
                    rotate_left
                    · (intro w hSw; have s0 := pw_cell_below hSw X0.out; go_simp) <;> (with_reducible rfl)
                    try simp only [Act.put, List.setIfInBounds_toArray, List.set_cons_zero, List.set_cons_succ]
                    refine wpAnyH_take (i := 2) (oi := { dst := some 115, op := _, type := _, pos := _, after := _, guard := _ }) (v := ?_) rfl (by kernel_rfl) (by kernel_rfl) (by kernel_rfl) (fun _ _ _ h => h) (Or.inl ⟨by rfl, ?_⟩) hHeld ?_
                    rotate_left
                    · (intro w hSw; have s0 := pw_cell_below hSw X0.out; go_simp) <;> (with_reducible rfl)
                    try simp only [Act.put, List.setIfInBounds_toArray, List.set_cons_zero, List.set_cons_succ]
                    refine wpAnyH_take (i := 3) (oi := { dst := some 116, op := _, type := _, pos := _, after := _, guard := _ }) (v := undef) rfl (by kernel_rfl) (by kernel_rfl) (by kernel_rfl) (fun _ _ _ h => h) (Or.inr ⟨by rfl, rfl⟩) hHeld ?_
                    try simp only [Act.put, List.setIfInBounds_toArray, List.set_cons_zero, List.set_cons_succ]
                    refine wpAnyH_take (i := 4) (oi := { dst := some 117, op := _, type := _, pos := _, after := _, guard := _ }) (v := undef) rfl (by kernel_rfl) (by kernel_rfl) (by kernel_rfl) (fun _ _ _ h => h) (Or.inr ⟨by rfl, rfl⟩) hHeld ?_
                    try simp only [Act.put, List.setIfInBounds_toArray, List.set_cons_zero, List.set_cons_succ]
                    refine wpAnyH_take (i := 5) (oi := { dst := some 118, op := _, type := _, pos := _, after := _, guard := _ }) (v := ?_) rfl (by kernel_rfl) (by kernel_rfl) (by kernel_rfl) (fun _ _ _ h => h) (Or.inl ⟨by rfl, ?_⟩) hHeld ?_
                    rotate_left
                    · (intro w hSw; have s0 := pw_cell_below hSw X0.out; go_simp) <;> (with_reducible rfl)
                    try simp only [Act.put, List.setIfInBounds_toArray, List.set_cons_zero, List.set_cons_succ]
                    refine wpAnyH_take (i := 6) (oi := { dst := some 119, op := _, type := _, pos := _, after := _, guard := _ }) (v := ?_) rfl (by kernel_rfl) (by kernel_rfl) (by kernel_rfl) (fun _ _ _ h => h) (Or.inl ⟨by rfl, ?_⟩) hHeld ?_
                    rotate_left
                    · (intro w hSw; have s0 := pw_cell_below hSw X0.out; go_simp) <;> (with_reducible rfl)
                    try simp only [Act.put, List.setIfInBounds_toArray, List.set_cons_zero, List.set_cons_succ]
                    refine wpAnyH_take (i := 7) (oi := { dst := some 120, op := _, type := _, pos := _, after := _, guard := _ }) (v := undef) rfl (by kernel_rfl) (by kernel_rfl) (by kernel_rfl) (fun _ _ _ h => h) (Or.inr ⟨by rfl, rfl⟩) hHeld ?_
                    try simp only [Act.put, List.setIfInBounds_toArray, List.set_cons_zero, List.set_cons_succ]
                    refine wpAnyH_take (i := 8) (oi := { dst := some 121, op := _, type := _, pos := _, after := _, guard := _ }) (v := undef) rfl (by kernel_rfl) (by kernel_rfl) (by kernel_rfl) (fun _ _ _ h => h) (Or.inr ⟨by rfl, rfl⟩) hHeld ?_
                    try simp only [Act.put, List.setIfInBounds_toArray, List.set_cons_zero, List.set_cons_succ]
                    refine wpAnyH_take (i := 9) (oi := { dst := some 122, op := _, type := _, pos := _, after := _, guard := _ }) (v := undef) rfl (by kernel_rfl) (by kernel_rfl) (by kernel_rfl) (fun _ _ _ h => h) (Or.inr ⟨by rfl, rfl⟩) hHeld ?_
                    try simp only [Act.put, List.setIfInBounds_toArray, List.set_cons_zero, List.set_cons_succ]
                    refine wpAnyH_take (i := 10) (oi := { dst := some 123, op := _, type := _, pos := _, after := _, guard := _ }) (v := undef) rfl (by kernel_rfl) (by kernel_rfl) (by kernel_rfl) (fun _ _ _ h => h) (Or.inr ⟨by rfl, rfl⟩) hHeld ?_
                    try simp only [Act.put, List.setIfInBounds_toArray, List.set_cons_zero, List.set_cons_succ]
                    refine wpAnyH_take (i := 11) (oi := { dst := some 124, op := _, type := _, pos := _, after := _, guard := _ }) (v := undef) rfl (by kernel_rfl) (by kernel_rfl) (by kernel_rfl) (fun _ _ _ h => h) (Or.inr ⟨by rfl, rfl⟩) hHeld ?_
                    try simp only [Act.put, List.setIfInBounds_toArray, List.set_cons_zero, List.set_cons_succ]
                    refine wpAnyH_take (i := 12) (oi := { dst := some 125, op := _, type := _, pos := _, after := _, guard := _ }) (v := undef) rfl (by kernel_rfl) (by kernel_rfl) (by kernel_rfl) (fun _ _ _ h => h) (Or.inr ⟨by rfl, rfl⟩) hHeld ?_
                    try simp only [Act.put, List.setIfInBounds_toArray, List.set_cons_zero, List.set_cons_succ]
                    refine wpAnyH_take (i := 13) (oi := { dst := some 126, op := _, type := _, pos := _, after := _, guard := _ }) (v := undef) rfl (by kernel_rfl) (by kernel_rfl) (by kernel_rfl) (fun _ _ _ h => h) (Or.inr ⟨by rfl, rfl⟩) hHeld ?_
                    try simp only [Act.put, List.setIfInBounds_toArray, List.set_cons_zero, List.set_cons_succ]
                    refine wpAnyH_take (i := 14) (oi := { dst := some 127, op := _, type := _, pos := _, after := _, guard := _ }) (v := undef) rfl (by kernel_rfl) (by kernel_rfl) (by kernel_rfl) (fun _ _ _ h => h) (Or.inr ⟨by rfl, rfl⟩) hHeld ?_
                    try simp only [Act.put, List.setIfInBounds_toArray, List.set_cons_zero, List.set_cons_succ]
                    refine wpAnyH_take (i := 15) (oi := { dst := some 128, op := _, type := _, pos := _, after := _, guard := _ }) (v := undef) rfl (by kernel_rfl) (by kernel_rfl) (by kernel_rfl) (fun _ _ _ h => h) (Or.inr ⟨by rfl, rfl⟩) hHeld ?_
                    try simp only [Act.put, List.setIfInBounds_toArray, List.set_cons_zero, List.set_cons_succ]
                    refine wpAnyH_take (i := 16) (oi := { dst := some 129, op := _, type := _, pos := _, after := _, guard := _ }) (v := ?_) rfl (by kernel_rfl) (by kernel_rfl) (by kernel_rfl) (fun _ _ _ h => h) (Or.inl ⟨by rfl, ?_⟩) hHeld ?_
                    rotate_left
                    · (intro w hSw; have s0 := pw_cell_below hSw X0.out; go_simp) <;> (with_reducible rfl)
                    try simp only [Act.put, List.setIfInBounds_toArray, List.set_cons_zero, List.set_cons_succ]
                    refine wpAnyH_done (by kernel_rfl) ?_ _
                    refine NoPanic.normal ?_
                    have B9 := Aside0.mk (below_drew (Below.refl wr.heap.size wr))
                    generalize wr.drew = w9 at B9 ⊢
                    have hx0 := pw_cell_below B9.out X0.out
                    have hx1 := pw_cell_below B9.out X1.out
                    have HO9 := Aside0.mk (Kd.N_below HO.out B9.out)
                    have K9 := Aside0.mk (blk_below KR.out B9.out)
                    have HB9 := Aside0.mk (HB.out.trans (B9.out.mono (Nat.le_of_lt hgw)))
                    have HBA9 := Aside0.mk (HBA.out.trans (B9.out.mono HBA.out.size))
                    go_wp2_with (first | ((with_reducible refine gate_builtin (b := .append) (xs := #[.tmp 134, .tmp 139]) rfl ?_); at_builtin; refine Kd.N_append kS (w0 := w5) gs rfl (.tmp 134) (.tmp 139) 22 39 (.agg #[.string ⟨#[]⟩, .slice none 0 0]) 40 rfl Tryd.underlying22 infoS rfl (by decide) (by omega) (.slice A12 os.length c12) os (⟨xn, xv⟩ : Sc) [.string xn, .slice A1 xv.length c1] (fun k => k ≠ gs) (fun k => k < w.heap.size) rfl rfl (Foot.imp (Kd.F_step FI.out (fun k hk _ => HBA9.out.block k hk)) (fun W' hC => k39_mk W' ⟨xn, xv⟩ hl1 hC)) (fun k hk => ⟨by omega, fun h => by have := Kd.N_base HO9.out k h.symm; omega⟩) (fun k hk => by have := blk_lt K9.out; omega) HO9.out HB9.out ?aS ?aL ?_; (case aS => have := blk_lt K9.out; omega); (case aL => omega); intro v1 w10 ho hb hg hat; have KR2 := Aside0.mk ((hg.block gs (blk_lt K9.out) (Kd.N_away HO9.out (fun _ h => h))).trans K9.out); generalize hos : os ++ [(⟨xn, xv⟩ : Sc)] = os2 at ho ⊢; have HOS2 := Aside0.mk hos.symm; clear hos; obtain ⟨A13, c13, rfl⟩ := Kd.N_slice ho; have HO2 := Aside0.mk ho; have HB2 := Aside0.mk hb; clear ho hb hg hat) | fail)
                    go_roundg (l.length - (i + 1))
                    case measure => have := HK.out; omega
                    case rel => exact ⟨i + 1, A13, c13, os2, rfl, by first | rfl | (simp; omega) | (simp; done), by first | rfl | (rw [HWL.out]), by omega, ⟨by omega⟩, ⟨HOS2.out.trans HOS1.out.symm⟩, HO2, ⟨nm0, fun h => HNM0.out (by omega), KR2.out⟩, HB2⟩
                · have hci : ¬ (i : Int) < (l.length : Int) := by omega
                  have e : i = l.length := by omega
                  subst e
                  by_cases hp : i0 < l.length
                  · rw [decide_eq_true hp]
                    go_wp2_with fail
                    go_ret2
                    obtain ⟨_, h1, h2⟩ := Kd.N_reads' HO.out
                    exact ⟨⟨os, 0, A12, c12, rfl, by rw [HOS.out, outL_end hp]; exact HWP.out, ⟨h2, h1⟩⟩, HBA.out⟩
                  · have hi0 : i0 = l.length := by have := HF.out.le; omega
                    have ht : t = false := by
                      cases t with
                      | false => rfl
                      | true => exact absurd (HF.out.yes rfl).1 hp
                    have hnm : nm0 = name := HNM0.out (by omega)
                    have HLA := Aside0.mk (show os ++ [⟨name, us2⟩] = moreL l name ⟨vn, vg, vt⟩ i0 t by subst ht; rw [HOS.out, ← HNW.out, outL_last hi0])
                    subst hnm
                    rw [decide_eq_false hp]
                    clear hi0 ht
                    have s0 := (blk_cell KR.out 0).trans (show _ = some (Value.string nm0) from rfl)
                    have s1 := (blk_cell KR.out 1).trans (show _ = some (Value.slice A6 us2.length c6) from rfl)
                    go_wp2_with (first | ((with_reducible refine gate_builtin (b := .append) (xs := #[.tmp 143, .tmp 145]) rfl ?_); at_builtin; refine Kd.N_append kS (w0 := w5) gs rfl (.tmp 143) (.tmp 145) 22 39 (.agg #[.string ⟨#[]⟩, .slice none 0 0]) 40 rfl Tryd.underlying22 infoS rfl (by decide) (by omega) (.slice A12 os.length c12) os (⟨nm0, us2⟩ : Sc) [.string nm0, .slice A6 us2.length c6] (fun k => k ≠ gs) (fun k => k < gs) rfl rfl (Foot.imp (Kd.F_step FA.out (fun k hk _ => HB.out.block k hk)) (fun W' hC => k39_mk W' ⟨nm0, us2⟩ hc6 hC)) (fun k hk => ⟨by omega, fun h => by have := Kd.N_base HO.out k h.symm; omega⟩) (fun k hk => by have := blk_lt KR.out; omega) HO.out HB.out ?aS ?aL ?_; (case aS => have := blk_lt KR.out; omega); (case aL => omega); intro v1 w10 ho hb hg hat; have KR2 := Aside0.mk ((hg.block gs (blk_lt KR.out) (Kd.N_away HO.out (fun _ h => h))).trans KR.out); generalize hos : os ++ [(⟨nm0, us2⟩ : Sc)] = os2 at ho ⊢; have HOS2 := Aside0.mk hos.symm; clear hos; obtain ⟨A13, c13, rfl⟩ := Kd.N_slice ho; have HO2 := Aside0.mk ho; have HB2 := Aside0.mk hb; clear ho hb hg hat) | fail)
                    go_ret2
                    obtain ⟨_, h1, h2⟩ := Kd.N_reads' HO2.out
                    exact ⟨⟨os2, 0, A13, c13, rfl, by rw [HOS2.out, HLA.out]; exact HWP.out, ⟨h2, h1⟩⟩, B5.out.trans (HB2.out.mono hge)⟩
end Go.Proofs.YtkabjbkefoipnaaDoor.Md
