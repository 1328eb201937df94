import Derived.Test.YtkabjbkefoipnaaDoorGPMx0
import Derived.Test.YtkabjbkefoipnaaDoorGPMx6
namespace Go.Proofs.YtkabjbkefoipnaaDoor.PM
open Go.RowKit Go.Proofs.YtkabjbkefoipnaaDoorW.PrintWords Go.Proofs.YtkabjbkefoipnaaDoorW.PrintLast Go.Proofs.YtkabjbkefoipnaaDoorW.PrintMore
attribute [local go_sem] max2_int min2_int max_two min_two max_three min_three max_four min_four   -- for this text's walks alone
set_option linter.unusedVariables false
set_option linter.unusedSimpArgs false
def scriniumref10_All.l0 : Nat → ByteArray → List (S75) → Int → Option ((List (S75)))
  | 0, _, _, _ => none
  | k + 1, x0, x3, x4 => if x4 < (x0.size : Int) then (if 0 ≤ x4 then (if x4 ≤ (x0.size : Int) then ((scriniumref10_First.f k (x0.extract (x4 : Int).toNat x0.size)).bind fun bt178 => (if x3.length < 5864062014805 then (scriniumref10_All.l0 k x0 (x3 ++ [(⟨bt178.1, bt178.2.1, bt178.2.2⟩ : S75)]) (wrap64 (x4 + bt178.2.1))) else (none))) else (none)) else (none)) else (some x3)
def scriniumref10_All.f (k : Nat) (a0 : ByteArray) : Option ((List (S75))) := scriniumref10_All.l0 k a0 ([] : List (S75)) 0
theorem scriniumref10_All.mono_l : ∀ k, (∀ y0 y1 y2, LeO (scriniumref10_All.l0 k y0 y1 y2) (scriniumref10_All.l0 (k + 1) y0 y1 y2))
  | 0 => fun _ _ _ r h => by simp [scriniumref10_All.l0] at h
  | k + 1 => by
    have ih0 := scriniumref10_All.mono_l k
    · intro y0 y1 y2
      unfold scriniumref10_All.l0
      repeat' first
      | (with_reducible exact ih0 _ _ _)
      | (with_reducible exact scriniumref10_First.mono _ _)
      | (with_reducible exact LeO.refl _)
      | (with_reducible exact LeO.none _)
      | (with_reducible refine LeO.ite ?_ ?_)
      | (with_reducible refine LeO.bind ?_ (fun _ => ?_))
      | exact ih0 _ _ _
      | exact scriniumref10_First.mono _ _
      | exact LeO.none _
      | refine LeO.ite ?_ ?_
      | refine LeO.bind ?_ (fun _ => ?_)
theorem scriniumref10_All.mono : ∀ a0 k, LeO (scriniumref10_All.f k a0) (scriniumref10_All.f (k + 1) a0) := by
  intro a0 k
  have ih0 := scriniumref10_All.mono_l k
  unfold scriniumref10_All.f
  repeat' first
      | (with_reducible exact ih0 _ _ _)
      | (with_reducible exact scriniumref10_First.mono _ _)
      | (with_reducible exact LeO.refl _)
      | (with_reducible exact LeO.none _)
      | (with_reducible refine LeO.ite ?_ ?_)
      | (with_reducible refine LeO.bind ?_ (fun _ => ?_))
      | exact ih0 _ _ _
      | exact scriniumref10_First.mono _ _
      | exact LeO.none _
      | refine LeO.ite ?_ ?_
      | refine LeO.bind ?_ (fun _ => ?_)
set_option maxHeartbeats 8000000 in
set_option maxRecDepth 100000 in
theorem scriniumref10_All.calls (k : Nat) (a0 : ByteArray) (r : List (S75)) (w : World) (h : scriniumref10_All.f k a0 = some r) :
    Calls Tryd.prog 48 #[.string a0] w fun e w' => ∃ v0_ : Value, e = .returned (v0_) ∧ Kd.R k75 75 w' w.heap.size (fun _ => True) v0_ r ∧ Below w.heap.size w w' := by
  have hu75 := Tryd.underlying75
  have HB := Aside0.mk (Below.refl w.heap.size w)
  have H : (scriniumref10_All.l0 k a0 ([] : List (S75)) 0) = some r := h
  clear h
  have H' := Aside0.mk H
  clear H
  go_enter Tryd.func48, Tryd.ntmps48
  go_wp2
  go_loopg [3, 4] k (fun kq v3 v4 w' => ∃ (x3_1 : List (S75)) (x4_1 : Int), v4 = .int .i64 x4_1 ∧ Aside0 (scriniumref10_All.l0 kq a0 x3_1 x4_1 = some r) ∧ Aside0 (kq ≤ k) ∧ Aside0 (Kd.R k75 75 w' w.heap.size (fun _ => True) v3 x3_1) ∧ Aside0 (Below w.heap.size w w'))
  case atStart => exact ⟨(([] : List (S75))), (0), (by first | rfl | (simp; done) | (simp [*]; done)), H', ⟨Nat.le_refl _⟩, ⟨by first | exact Kd.R_nil _ _ _ _ _ | exact Kd.N_nil _ _ _ _ _ | exact Kd.V_nil _ _ _ _ _ | exact Kd.Q_nil _ _ _ _ _ | exact Kd.S_nil _ _ _ _ _⟩, ⟨by repeat (first | (with_reducible first | exact HB.out | apply below_alloc | apply pw_below_drewN | apply below_drew1) | exact HB.out)⟩⟩
  case round =>
    clear H'
    obtain ⟨x3_1, x4_1, rfl, HA, HK1, HO_3, HB⟩ := hrel
    cases gk with
    | zero => exact absurd HA.out (by simp [scriniumref10_All.l0])
    | succ k1 =>
      have H := HA.out
      clear HA
      simp only [scriniumref10_All.l0] at H
      by_cases c2 : x4_1 < (a0.size : Int)
      · rw [if_pos c2] at H
        have c2b0 : decide (x4_1 < (a0.size : Int)) = true := decide_eq_true c2
        clear c2
        by_cases c3 : 0 ≤ x4_1
        · rw [if_pos c3] at H
          have c3b0 := eq_true c3
          have c3b1 : decide (0 ≤ x4_1) = true := decide_eq_true c3
          clear c3
          by_cases c4 : x4_1 ≤ (a0.size : Int)
          · rw [if_pos c4] at H
            have c4b0 := eq_true c4
            have c4b1 : decide (x4_1 ≤ (a0.size : Int)) = true := decide_eq_true c4
            clear c4
            replace H := Option.bind_eq_some_iff.mp H
            obtain ⟨⟨t178, t179, t180⟩, A50, H⟩ := H
            replace H : (if x3_1.length < 5864062014805 then (scriniumref10_All.l0 k1 a0 (x3_1 ++ [(⟨t178, t179, t180⟩ : S75)]) (wrap64 (x4_1 + t179))) else (none)) = some r := H
            have A5 := Aside0.mk A50
            clear A50
            by_cases c6 : x3_1.length < 5864062014805
            · rw [if_pos c6] at H
              have LMc6 := Aside0.mk c6
              clear c6
              obtain ⟨y182, hy182⟩ : ∃ y_ : List (S75), y_ = (x3_1 ++ [(⟨t178, t179, t180⟩ : S75)]) := ⟨_, rfl⟩
              replace H : (scriniumref10_All.l0 k1 a0 y182 (wrap64 (x4_1 + t179))) = some r := by first | (rw [hy182]; with_reducible exact H) | (have H2_ := (Option.bind_some _ _).symm.trans H; rw [hy182]; with_reducible exact H2_) | (have H2_ := (Option.bind_some _ _).symm.trans H; with_reducible exact H2_) | with_reducible exact H | (rw [hy182]; exact H) | exact H
              have Ny182 := Aside0.mk hy182
              clear hy182
              have H' := Aside0.mk H
              clear H
              go_wp2_with (first | ((with_reducible refine gate_callee (f := 57) rfl ?_); refine goesL_ (some 13) rfl rfl Tryd.func57 (by kernel_rfl) rfl #[.string (a0.extract (x4_1 : Int).toNat a0.size)] rfl (by (try simp only [List.map_toArray, List.map_cons, List.map_nil]); first | done | rfl | (simp only [List.length_drop, List.length_take]; rfl)) ?_; (with_reducible refine (scriniumref10_First.calls k1 (a0.extract (x4_1 : Int).toNat a0.size) t178 t179 t180 _ A5.out).mono ?_); rintro e w7 ⟨rfl, hb⟩; refine ⟨_, rfl, ?_⟩; have n0_ := Aside0.mk (Kd.R_below (by (with_reducible repeat (first | apply Kd.R_alloc | apply Kd.R_drewN | apply Kd.R_drew)); exact HO_3.out) hb); have n1_ := Aside0.mk (below_step (by repeat (first | (with_reducible first | exact HB.out | apply below_alloc | apply pw_below_drewN | apply below_drew1) | exact HB.out)) hb); clear HO_3; clear HB; have HO_3 := n0_; have HB := n1_; clear n0_ n1_; (try clear hb); (try clear hb2); (try clear hk); (try clear hi)) | ((with_reducible refine gate_dst (N := 5) rfl ?_); refine box_event ?hg (N := 5) ?hd (cs := #[.int .i64 0, .int .i64 0, .bool false]) (t := 75) ?hr ?_; (case hd => rfl); (case hg => rfl); (case hr => first | (go_simp; done) | (go_simp; rfl)); intro gb181 hg w8 hbox hb; have n0_ := Aside0.mk (Kd.R_below (Kd.R_elderB (by (with_reducible repeat (first | apply Kd.R_alloc | apply Kd.R_drewN | apply Kd.R_drew)); exact HO_3.out) gb181 (Nat.le_of_eq hg.symm)) hb); have n1_ := Aside0.mk (below_step (by repeat (first | (with_reducible first | exact HB.out | apply below_alloc | apply pw_below_drewN | apply below_drew1) | exact HB.out)) hb); have n2_ := Aside0.mk (hbox); have n3_ := Aside0.mk ((by rw [hg]; exact (below_size (by repeat (first | (with_reducible first | exact HB.out | apply below_alloc | apply pw_below_drewN | apply below_drew1) | exact HB.out))) : w.heap.size ≤ gb181)); have n4_ := Aside0.mk ((by rw [hg]; exact (below_size (by repeat (first | (with_reducible first | exact HB.out | apply below_alloc | apply pw_below_drewN | apply below_drew1) | exact HB.out))) : w.heap.size ≤ gb181)); clear HO_3; clear HB; have HO_3 := n0_; have HB := n1_; have BK181 := n2_; have GW181 := n3_; have GE181 := n4_; clear n0_ n1_ n2_ n3_ n4_; clear hb hbox hg; have hcz9_0 : w8.cell? ⟨gb181, 0, none⟩ = some (.int .i64 0) := (blk_cell BK181.out 0).trans rfl; have hcz9_1 : w8.cell? ⟨gb181, 1, none⟩ = some (.int .i64 0) := (blk_cell BK181.out 1).trans rfl; have hcz9_2 : w8.cell? ⟨gb181, 2, none⟩ = some (.bool false) := (blk_cell BK181.out 2).trans rfl; have hfz9_0 := blk_frozen BK181.out 0; have hfz9_1 := blk_frozen BK181.out 1; have hfz9_2 := blk_frozen BK181.out 2) | ((with_reducible refine gate_builtin (b := .append) (xs := #[.tmp 14, .tmp 16]) rfl ?_); at_builtin; refine Kd.R_append k75 (w0 := w) w.heap.size rfl (.tmp 14) (.tmp 16) 72 75 (.agg #[(.int .i64 0), (.int .i64 0), (.bool false)]) 24 rfl Tryd.underlying72 info75 rfl (by decide) (by omega) u3 x3_1 (⟨t178, t179, t180⟩ : S75) [.int .i64 t178, .int .i64 t179, .bool t180] (fun k_ => k_ ≠ gb181) (fun _ => False) rfl (by first | (go_simp; done) | (go_simp; rfl)) ?aP (fun _ hk => hk.elim) ?aF ?aO ?aB ?aS ?aL ?_; (case aP => exact k75_mkM _ _ _ (⟨t178, t179, t180⟩ : S75)); (case aB => exact (by repeat (first | (with_reducible first | exact HB.out | apply below_alloc | apply pw_below_drewN | apply below_drew1 | refine below_set ?_ GE181.out) | exact HB.out))); (case aF => exact (fun k_ hk => Kd.freshB (g := gb181) (o := .cells #[.int .i64 t178, .int .i64 t179, .bool t180] 75 (0, 0)) (by (with_reducible repeat (first | refine blk_drewN ?_ _ | refine blk_drew ?_ | refine blk_alloc ?_ _)); refine blk_put (cs := #[.int .i64 t178, .int .i64 t179, .bool false]) ?_ 2 _ rfl; (with_reducible repeat (first | refine blk_drewN ?_ _ | refine blk_drew ?_ | refine blk_alloc ?_ _)); refine blk_put (cs := #[.int .i64 t178, .int .i64 0, .bool false]) ?_ 1 _ rfl; (with_reducible repeat (first | refine blk_drewN ?_ _ | refine blk_drew ?_ | refine blk_alloc ?_ _)); refine blk_put (cs := #[.int .i64 0, .int .i64 0, .bool false]) ?_ 0 _ rfl; (with_reducible repeat (first | refine blk_drewN ?_ _ | refine blk_drew ?_ | refine blk_alloc ?_ _)); exact BK181.out) k_ hk)); (case aO => exact (by (with_reducible repeat (first | apply Kd.R_alloc | apply Kd.R_drewN | apply Kd.R_drew)); exact Kd.R_mono (Kd.R_far (p := ⟨gb181, 2, none⟩) (Kd.R_far (p := ⟨gb181, 1, none⟩) (Kd.R_far (p := ⟨gb181, 0, none⟩) (Kd.R_mono HO_3.out (fun k_ hk => (⟨hk, hk.2⟩ : _ ∧ k_ ≠ gb181))) (fun _ hk => hk.2) (.int .i64 t178)) (fun _ hk => hk.2) (.int .i64 t179)) (fun _ hk => hk.2) (.bool t180)) (fun _ hk => hk.1.2))); (case aS => exact (below_size (by repeat (first | (with_reducible first | exact HB.out | apply below_alloc | apply pw_below_drewN | apply below_drew1 | refine below_set ?_ GE181.out) | exact HB.out)))); (case aL => have := LMc6.out; omega); intro v183 w10 ho hb hg hat; rw [← Ny182.out] at ho; have n0_ := Aside0.mk (blk_grown (g := gb181) (o := .cells #[.int .i64 t178, .int .i64 t179, .bool t180] 75 (0, 0)) (by (with_reducible repeat (first | refine blk_drewN ?_ _ | refine blk_drew ?_ | refine blk_alloc ?_ _)); refine blk_put (cs := #[.int .i64 t178, .int .i64 t179, .bool false]) ?_ 2 _ rfl; (with_reducible repeat (first | refine blk_drewN ?_ _ | refine blk_drew ?_ | refine blk_alloc ?_ _)); refine blk_put (cs := #[.int .i64 t178, .int .i64 0, .bool false]) ?_ 1 _ rfl; (with_reducible repeat (first | refine blk_drewN ?_ _ | refine blk_drew ?_ | refine blk_alloc ?_ _)); refine blk_put (cs := #[.int .i64 0, .int .i64 0, .bool false]) ?_ 0 _ rfl; (with_reducible repeat (first | refine blk_drewN ?_ _ | refine blk_drew ?_ | refine blk_alloc ?_ _)); exact BK181.out) hg (Kd.R_away HO_3.out (fun _ hk => hk.2))); have n1_ := Aside0.mk (hb); have n2_ := Aside0.mk (ho); clear BK181; clear HB; clear HO_3; have BK181 := n0_; have HB := n1_; have HO184 := n2_; clear n0_ n1_ n2_; clear ho hb hg hat; have hcz11_0 : w10.cell? ⟨gb181, 0, none⟩ = some (.int .i64 t178) := (blk_cell BK181.out 0).trans rfl; have hcz11_1 : w10.cell? ⟨gb181, 1, none⟩ = some (.int .i64 t179) := (blk_cell BK181.out 1).trans rfl; have hcz11_2 : w10.cell? ⟨gb181, 2, none⟩ = some (.bool t180) := (blk_cell BK181.out 2).trans rfl; have hfz11_0 := blk_frozen BK181.out 0; have hfz11_1 := blk_frozen BK181.out 1; have hfz11_2 := blk_frozen BK181.out 2))
              go_roundg k1
              case measure => have := HK1.out; omega
              case rel => exact ⟨(y182), (wrap64 (x4_1 + t179)), (by first | rfl | (simp; done) | (simp [*]; done)), H', ⟨by have := HK1.out; omega⟩, ⟨by (with_reducible repeat (first | apply Kd.R_alloc | apply Kd.R_drewN | apply Kd.R_drew)); exact Kd.R_mono HO184.out (fun _ hk => trivial)⟩, ⟨by repeat (first | (with_reducible first | exact HB.out | apply below_alloc | apply pw_below_drewN | apply below_drew1 | refine below_set ?_ GE181.out) | exact HB.out)⟩⟩
            · rw [if_neg c6] at H
              exact absurd H (by simp)
          · rw [if_neg c4] at H
            exact absurd H (by simp)
        · rw [if_neg c3] at H
          exact absurd H (by simp)
      · rw [if_neg c2] at H
        have c2b0 : decide (x4_1 < (a0.size : Int)) = false := decide_eq_false c2
        clear c2
        obtain rfl := Option.some.inj H
        go_wp2
        go_ret
        exact ⟨_, by first | rfl | (simp [errW_none, errW_some] <;> rfl) | (simp [*, errW_none, errW_some] <;> rfl), by (with_reducible repeat (first | apply Kd.R_alloc | apply Kd.R_drewN | apply Kd.R_drew)); exact HO_3.out, by repeat (first | (with_reducible first | exact HB.out | apply below_alloc | apply pw_below_drewN | apply below_drew1) | exact HB.out)⟩
mutual
def scriniumref10_Right.j0 : Nat → List (S75) → Bool → Option (Bool)
  | 0, _, _ => none
  | k + 1, x3, x32 => if x32 = true then (some false) else (scriniumref10_Right.l0 k x3 0)
def scriniumref10_Right.l0 : Nat → List (S75) → Int → Option (Bool)
  | 0, _, _ => none
  | k + 1, x3, x4 => if x4 < (x3.length : Int) then (if 0 ≤ x4 then (if ((rd_T75 x3 x4).f2 = true) then (if ((rd_T75 x3 x4).f0) < 32 then (some false) else (if ((rd_T75 x3 x4).f0) ≥ 127 then (if ((rd_T75 x3 x4).f0) ≤ 159 then (some false) else (if ((rd_T75 x3 x4).f0) = 47 then (some false) else (if ((rd_T75 x3 x4).f0) = 65533 then (some false) else (scriniumref10_Right.l0 k x3 (wrap64 (x4 + 1)))))) else (if ((rd_T75 x3 x4).f0) = 47 then (some false) else (if ((rd_T75 x3 x4).f0) = 65533 then (some false) else (scriniumref10_Right.l0 k x3 (wrap64 (x4 + 1))))))) else (some false)) else (none)) else (some true)
end
def scriniumref10_Right.f (k : Nat) (a0 : ByteArray) : Option (Bool) := (scriniumref10_All.f k a0).bind fun t185 => (if (t185.length : Int) < 1 then (scriniumref10_Right.j0 k t185 true) else (if (t185.length : Int) > 24 then (scriniumref10_Right.j0 k t185 true) else (if 0 < (t185.length : Int) then (if ((rd_T75 t185 0).f0) = 32 then (scriniumref10_Right.j0 k t185 true) else (if 0 ≤ (wrap64 ((t185.length : Int) - 1)) then (if (wrap64 ((t185.length : Int) - 1)) < (t185.length : Int) then (scriniumref10_Right.j0 k t185 (((rd_T75 t185 (wrap64 ((t185.length : Int) - 1))).f0) == 32)) else (none)) else (none))) else (none))))
theorem scriniumref10_Right.mono_l : ∀ k, (∀ y0 y1, LeO (scriniumref10_Right.j0 k y0 y1) (scriniumref10_Right.j0 (k + 1) y0 y1)) ∧ (∀ y0 y1, LeO (scriniumref10_Right.l0 k y0 y1) (scriniumref10_Right.l0 (k + 1) y0 y1))
  | 0 => ⟨fun _ _ r h => by simp [scriniumref10_Right.j0] at h, fun _ _ r h => by simp [scriniumref10_Right.l0] at h⟩
  | k + 1 => by
    obtain ⟨ih0, ih1⟩ := scriniumref10_Right.mono_l k
    refine ⟨?_, ?_⟩
    · intro y0 y1
      unfold scriniumref10_Right.j0
      repeat' first
      | (with_reducible exact ih0 _ _)
      | (with_reducible exact ih1 _ _)
      | (with_reducible exact scriniumref10_All.mono _ _)
      | (with_reducible exact LeO.refl _)
      | (with_reducible exact LeO.none _)
      | (with_reducible refine LeO.ite ?_ ?_)
      | (with_reducible refine LeO.bind ?_ (fun _ => ?_))
      | exact ih0 _ _
      | exact ih1 _ _
      | exact scriniumref10_All.mono _ _
      | exact LeO.none _
      | refine LeO.ite ?_ ?_
      | refine LeO.bind ?_ (fun _ => ?_)
    · intro y0 y1
      unfold scriniumref10_Right.l0
      repeat' first
      | (with_reducible exact ih0 _ _)
      | (with_reducible exact ih1 _ _)
      | (with_reducible exact scriniumref10_All.mono _ _)
      | (with_reducible exact LeO.refl _)
      | (with_reducible exact LeO.none _)
      | (with_reducible refine LeO.ite ?_ ?_)
      | (with_reducible refine LeO.bind ?_ (fun _ => ?_))
      | exact ih0 _ _
      | exact ih1 _ _
      | exact scriniumref10_All.mono _ _
      | exact LeO.none _
      | refine LeO.ite ?_ ?_
      | refine LeO.bind ?_ (fun _ => ?_)
theorem scriniumref10_Right.mono : ∀ a0 k, LeO (scriniumref10_Right.f k a0) (scriniumref10_Right.f (k + 1) a0) := by
  intro a0 k
  obtain ⟨ih0, ih1⟩ := scriniumref10_Right.mono_l k
  unfold scriniumref10_Right.f
  repeat' first
      | (with_reducible exact ih0 _ _)
      | (with_reducible exact ih1 _ _)
      | (with_reducible exact scriniumref10_All.mono _ _)
      | (with_reducible exact LeO.refl _)
      | (with_reducible exact LeO.none _)
      | (with_reducible refine LeO.ite ?_ ?_)
      | (with_reducible refine LeO.bind ?_ (fun _ => ?_))
      | exact ih0 _ _
      | exact ih1 _ _
      | exact scriniumref10_All.mono _ _
      | exact LeO.none _
      | refine LeO.ite ?_ ?_
      | refine LeO.bind ?_ (fun _ => ?_)
set_option maxHeartbeats 8000000 in
set_option maxRecDepth 100000 in
theorem scriniumref10_Right.calls (k : Nat) (a0 : ByteArray) (r : Bool) (w : World) (h : scriniumref10_Right.f k a0 = some r) :
    Calls Tryd.prog 36 #[.string a0] w fun e w' => e = .returned (.bool r) ∧ Below w.heap.size w w' := by
  have HB := Aside0.mk (Below.refl w.heap.size w)
  have H : ((scriniumref10_All.f k a0).bind fun t185 => (if (t185.length : Int) < 1 then (scriniumref10_Right.j0 k t185 true) else (if (t185.length : Int) > 24 then (scriniumref10_Right.j0 k t185 true) else (if 0 < (t185.length : Int) then (if ((rd_T75 t185 0).f0) = 32 then (scriniumref10_Right.j0 k t185 true) else (if 0 ≤ (wrap64 ((t185.length : Int) - 1)) then (if (wrap64 ((t185.length : Int) - 1)) < (t185.length : Int) then (scriniumref10_Right.j0 k t185 (((rd_T75 t185 (wrap64 ((t185.length : Int) - 1))).f0) == 32)) else (none)) else (none))) else (none))))) = some r := h
  clear h
  replace H := Option.bind_eq_some_iff.mp H
  obtain ⟨t185, A20, H⟩ := H
  replace H : (if (t185.length : Int) < 1 then (scriniumref10_Right.j0 k t185 true) else (if (t185.length : Int) > 24 then (scriniumref10_Right.j0 k t185 true) else (if 0 < (t185.length : Int) then (if ((rd_T75 t185 0).f0) = 32 then (scriniumref10_Right.j0 k t185 true) else (if 0 ≤ (wrap64 ((t185.length : Int) - 1)) then (if (wrap64 ((t185.length : Int) - 1)) < (t185.length : Int) then (scriniumref10_Right.j0 k t185 (((rd_T75 t185 (wrap64 ((t185.length : Int) - 1))).f0) == 32)) else (none)) else (none))) else (none)))) = some r := H
  have A2 := Aside0.mk A20
  clear A20
  have HC3 := Aside0.mk H
  clear H
  go_enter Tryd.func36, Tryd.ntmps36
  go_upto_region 2 with (first | ((with_reducible refine gate_callee (f := 48) rfl ?_); refine goesL_ (some 7) rfl rfl Tryd.func48 (by kernel_rfl) rfl #[.string a0] rfl (by (try simp only [List.map_toArray, List.map_cons, List.map_nil]); first | done | rfl | (simp only [List.length_drop, List.length_take]; rfl)) ?_; (with_reducible refine (scriniumref10_All.calls k a0 t185 _ A2.out).mono ?_); rintro e w4 ⟨v186, rfl, ho0, hb⟩; refine ⟨_, rfl, ?_⟩; have n0_ := Aside0.mk (Kd.R_lower ho0 (below_size (by repeat (first | (with_reducible first | exact HB.out | apply below_alloc | apply pw_below_drewN | apply below_drew1) | exact HB.out)))); have n1_ := Aside0.mk (below_step (by repeat (first | (with_reducible first | exact HB.out | apply below_alloc | apply pw_below_drewN | apply below_drew1) | exact HB.out)) hb); clear HB; have HO187 := n0_; have HB := n1_; clear n0_ n1_; (try clear hb); (try clear hb2); (try clear hk); (try clear hi); (try clear ho0)))
  (try simp only [Act.put, List.setIfInBounds_toArray, List.set_cons_zero, List.set_cons_succ])
  go_cut [32] (fun v32 wc => ∃ (kq : Nat) (x32_2 : Bool), v32 = .bool x32_2 ∧ Aside0 (scriniumref10_Right.j0 kq t185 x32_2 = some r) ∧ Aside0 (kq ≤ k) ∧ Aside0 (Kd.R k75 75 wc w.heap.size (fun _ => True) v186 t185) ∧ Aside0 (Below w.heap.size w wc))
  case first =>
    have H := HC3.out
    clear HC3
    by_cases c5 : (t185.length : Int) < 1
    · rw [if_pos c5] at H
      have c5b0 : decide ((t185.length : Int) < 1) = true := decide_eq_true c5
      have c5b1 : decide (t185.length < 1) = true := decide_eq_true (by omega)
      clear c5
      (first | rw [c5b0] | (simp only [i64_w, i32_w]; rw [c5b0]) | skip)
      have H' := Aside0.mk H
      clear H
      obtain ⟨Ao6, co6, eo6⟩ := Kd.R_slice HO187.out
      subst eo6
      go_wp2
      go_meet
      case rel => exact ⟨_, (true), (by first | rfl | (simp; done) | (simp [*]; done)), H', ⟨by first | omega | exact Nat.le_refl _⟩, ⟨by (with_reducible repeat (first | apply Kd.R_alloc | apply Kd.R_drewN | apply Kd.R_drew)); exact HO187.out⟩, ⟨by repeat (first | (with_reducible first | exact HB.out | apply below_alloc | apply pw_below_drewN | apply below_drew1) | exact HB.out)⟩⟩
    · rw [if_neg c5] at H
      have c5b0 : decide ((t185.length : Int) < 1) = false := decide_eq_false c5
      have c5b1 : decide (t185.length < 1) = false := decide_eq_false (by omega)
      clear c5
      (first | rw [c5b0] | (simp only [i64_w, i32_w]; rw [c5b0]) | skip)
      by_cases c7 : (t185.length : Int) > 24
      · rw [if_pos c7] at H
        have c7b0 : decide (24 < (t185.length : Int)) = true := decide_eq_true c7
        have c7b1 : decide (24 < t185.length) = true := decide_eq_true (by omega)
        clear c7
        have H' := Aside0.mk H
        clear H
        obtain ⟨Ao8, co8, eo8⟩ := Kd.R_slice HO187.out
        subst eo8
        go_wp2
        go_meet
        case rel => exact ⟨_, (true), (by first | rfl | (simp; done) | (simp [*]; done)), H', ⟨by first | omega | exact Nat.le_refl _⟩, ⟨by (with_reducible repeat (first | apply Kd.R_alloc | apply Kd.R_drewN | apply Kd.R_drew)); exact HO187.out⟩, ⟨by repeat (first | (with_reducible first | exact HB.out | apply below_alloc | apply pw_below_drewN | apply below_drew1) | exact HB.out)⟩⟩
      · rw [if_neg c7] at H
        have c7b0 : decide (24 < (t185.length : Int)) = false := decide_eq_false c7
        have c7b1 : decide (24 < t185.length) = false := decide_eq_false (by omega)
        clear c7
        by_cases c9 : 0 < (t185.length : Int)
        · rw [if_pos c9] at H
          have c9b0 : decide (0 < (t185.length : Int)) = true := decide_eq_true c9
          have c9b1 : decide (0 < t185.length) = true := decide_eq_true (by omega)
          clear c9
          by_cases c10 : ((rd_T75 t185 0).f0) = 32
          · rw [if_pos c10] at H
            have c10b0 : (((rd_T75 t185 0).f0) == 32) = true := beq_iff_eq.mpr c10
            have c10b1 : (((rd_T75 t185 0).f0) != 32) = false := bne_eq_false_iff_eq.mpr c10
            clear c10
            have H' := Aside0.mk H
            clear H
            obtain ⟨Ao11, co11, eo11⟩ := Kd.R_slice HO187.out
            subst eo11
            have p188 : 0 ≤ (0 : Int) := (by omega)
            have q188 : 0 < (t185.length : Int) := of_decide_eq_true (by first | (with_reducible assumption) | assumption)
            obtain ⟨ad188, e188, hx188_0, hx188_1, hx188_2⟩ := at_T75 (Kd.R_reads' HO187.out).2.2 0 p188 q188
            cases e188
            have qi188 : (0 < t185.length) = True := eq_true (by omega)
            (try rw [show ((0 : Int)).toNat = 0 from rfl] at hx188_0)
            (try rw [show 0 * 3 = 0 from rfl] at hx188_0)
            (try rw [Addr.add_zero'] at hx188_0)
            (try rw [show ((0 : Int)).toNat = 0 from rfl] at hx188_1)
            (try rw [show 0 * 3 = 0 from rfl] at hx188_1)
            (try rw [Addr.add_zero'] at hx188_1)
            (try rw [show ((0 : Int)).toNat = 0 from rfl] at hx188_2)
            (try rw [show 0 * 3 = 0 from rfl] at hx188_2)
            (try rw [Addr.add_zero'] at hx188_2)
            replace p188 := eq_true p188
            replace q188 := eq_true q188
            go_wp2
            go_meet
            case rel => exact ⟨_, (true), (by first | rfl | (simp; done) | (simp [*]; done)), H', ⟨by first | omega | exact Nat.le_refl _⟩, ⟨by (with_reducible repeat (first | apply Kd.R_alloc | apply Kd.R_drewN | apply Kd.R_drew)); exact HO187.out⟩, ⟨by repeat (first | (with_reducible first | exact HB.out | apply below_alloc | apply pw_below_drewN | apply below_drew1) | exact HB.out)⟩⟩
          · rw [if_neg c10] at H
            have c10b0 : (((rd_T75 t185 0).f0) == 32) = false := beq_eq_false_iff_ne.mpr c10
            have c10b1 : (((rd_T75 t185 0).f0) != 32) = true := bne_iff_ne.mpr c10
            obtain ⟨ji12, hji12⟩ : ∃ j_ : Int, (wrap64 ((t185.length : Int) - 1)) = j_ := ⟨_, rfl⟩
            replace H : (if 0 ≤ (ji12) then (if (ji12) < (t185.length : Int) then (scriniumref10_Right.j0 k t185 (((rd_T75 t185 (ji12)).f0) == 32)) else (none)) else (none)) = some r := by first | (rw [hji12] at H; exact H) | (simp only [hji12] at H ⊢; exact H)
            have hji12w : (IntKind.i64.wrap ((t185.length : Int) - 1)) = ji12 := (i64_w _).trans hji12
            by_cases c13 : 0 ≤ (ji12)
            · rw [if_pos c13] at H
              have c13b0 : decide (0 ≤ (ji12)) = true := decide_eq_true c13
              clear c13
              by_cases c14 : (ji12) < (t185.length : Int)
              · rw [if_pos c14] at H
                have c14b0 : decide ((ji12) < (t185.length : Int)) = true := decide_eq_true c14
                clear c14
                have H' := Aside0.mk H
                clear H
                obtain ⟨Ao15, co15, eo15⟩ := Kd.R_slice HO187.out
                subst eo15
                have p188 : 0 ≤ (0 : Int) := (by omega)
                have q188 : 0 < (t185.length : Int) := of_decide_eq_true (by first | (with_reducible assumption) | assumption)
                obtain ⟨ad188, e188, hx188_0, hx188_1, hx188_2⟩ := at_T75 (Kd.R_reads' HO187.out).2.2 0 p188 q188
                cases e188
                have qi188 : (0 < t185.length) = True := eq_true (by omega)
                (try rw [show ((0 : Int)).toNat = 0 from rfl] at hx188_0)
                (try rw [show 0 * 3 = 0 from rfl] at hx188_0)
                (try rw [Addr.add_zero'] at hx188_0)
                (try rw [show ((0 : Int)).toNat = 0 from rfl] at hx188_1)
                (try rw [show 0 * 3 = 0 from rfl] at hx188_1)
                (try rw [Addr.add_zero'] at hx188_1)
                (try rw [show ((0 : Int)).toNat = 0 from rfl] at hx188_2)
                (try rw [show 0 * 3 = 0 from rfl] at hx188_2)
                (try rw [Addr.add_zero'] at hx188_2)
                replace p188 := eq_true p188
                replace q188 := eq_true q188
                have p189 : 0 ≤ ((ji12) : Int) := of_decide_eq_true (by first | (with_reducible assumption) | assumption)
                have q189 : (ji12) < (t185.length : Int) := of_decide_eq_true (by first | (with_reducible assumption) | assumption)
                obtain ⟨ad189, e189, hx189_0, hx189_1, hx189_2⟩ := at_T75 (Kd.R_reads' HO187.out).2.2 (ji12) p189 q189
                obtain rfl : ad188 = ad189 := (by injection e189)
                replace p189 := eq_true p189
                replace q189 := eq_true q189
                go_wp2
                go_meet
                case rel => exact ⟨_, ((((rd_T75 t185 (ji12)).f0) == 32)), (by first | rfl | (simp; done) | (simp only [← hji12] <;> (first | rfl | simp)) | (simp [*]; done)), H', ⟨by first | omega | exact Nat.le_refl _⟩, ⟨by (with_reducible repeat (first | apply Kd.R_alloc | apply Kd.R_drewN | apply Kd.R_drew)); exact HO187.out⟩, ⟨by repeat (first | (with_reducible first | exact HB.out | apply below_alloc | apply pw_below_drewN | apply below_drew1) | exact HB.out)⟩⟩
              · rw [if_neg c14] at H
                exact absurd H (by simp)
            · rw [if_neg c13] at H
              exact absurd H (by simp)
        · rw [if_neg c9] at H
          exact absurd H (by simp)
  case rest =>
    clear HC3
    try clear c1
    try clear p1
    try clear q1
    try clear hx1
    try clear qi1
    try clear p2
    try clear c3
    try clear c4
    try clear c5
    try clear c5b0
    try clear c5b1
    try clear p6
    try clear c7
    try clear c7b0
    try clear c7b1
    try clear c9
    try clear c9b0
    try clear c9b1
    try clear c10
    try clear c10b0
    try clear c10b1
    try clear c13
    try clear c13b0
    try clear c14
    try clear c14b0
    try clear hx188_0
    try clear hx188_1
    try clear hx188_2
    try clear hx189_0
    try clear hx189_1
    try clear hx189_2
    try clear p188
    try clear p189
    try clear q188
    try clear q189
    obtain ⟨kq, x32_2, rfl, HA, HJ2, HO_3, HB⟩ := hcut
    cases kq with
    | zero => exact absurd HA.out (by simp [scriniumref10_Right.j0])
    | succ kj2 =>
      have H := HA.out
      clear HA
      simp only [scriniumref10_Right.j0] at H
      by_cases c16 : x32_2 = true
      · subst c16
        have H1 : (some false) = some r := by rw [if_pos rfl] at H; exact H
        clear H
        have H := H1
        clear H1
        obtain rfl := Option.some.inj H
        go_wp2
        go_ret
        exact ⟨by first | rfl | (simp [errW_none, errW_some] <;> rfl) | (simp [*, errW_none, errW_some] <;> rfl), by repeat (first | (with_reducible first | exact HB.out | apply below_alloc | apply pw_below_drewN | apply below_drew1) | exact HB.out)⟩
      · replace c16 := Bool.eq_false_iff.mpr c16
        subst c16
        have H1 : (scriniumref10_Right.l0 kj2 t185 0) = some r := by rw [if_neg (show ¬ (false = true) by decide)] at H; exact H
        clear H
        have H := H1
        clear H1
        have H' := Aside0.mk H
        clear H
        go_wp2
        go_loopg [4] kj2 (fun kq v4 w' => ∃ (x4_2 : Int), v4 = .int .i64 x4_2 ∧ Aside0 (scriniumref10_Right.l0 kq t185 x4_2 = some r) ∧ Aside0 (kq ≤ kj2) ∧ Aside0 (Kd.R k75 75 w' w.heap.size (fun _ => True) v186 t185) ∧ Aside0 (Below w.heap.size w w'))
        case atStart => exact ⟨(0), (by first | rfl | (simp; done) | (simp [*]; done)), H', ⟨Nat.le_refl _⟩, ⟨by (with_reducible repeat (first | apply Kd.R_alloc | apply Kd.R_drewN | apply Kd.R_drew)); exact HO_3.out⟩, ⟨by repeat (first | (with_reducible first | exact HB.out | apply below_alloc | apply pw_below_drewN | apply below_drew1) | exact HB.out)⟩⟩
        case round =>
          clear H'
          try clear c1
          try clear p1
          try clear q1
          try clear hx1
          try clear qi1
          try clear p2
          try clear c3
          try clear c4
          try clear c5
          try clear c5b0
          try clear c5b1
          try clear p6
          try clear c7
          try clear c7b0
          try clear c7b1
          try clear c9
          try clear c9b0
          try clear c9b1
          try clear c10
          try clear c10b0
          try clear c10b1
          try clear c13
          try clear c13b0
          try clear c14
          try clear c14b0
          try clear c16
          try clear hx188_0
          try clear hx188_1
          try clear hx188_2
          try clear hx189_0
          try clear hx189_1
          try clear hx189_2
          try clear p1
          try clear p188
          try clear p189
          try clear p2
          try clear p6
          try clear q1
          try clear q188
          try clear q189
          obtain ⟨x4_2, rfl, HA, HK2, HO_3, HB⟩ := hrel
          cases gk with
          | zero => exact absurd HA.out (by simp [scriniumref10_Right.l0])
          | succ k2 =>
            have H := HA.out
            clear HA
            simp only [scriniumref10_Right.l0] at H
            by_cases c17 : x4_2 < (t185.length : Int)
            · rw [if_pos c17] at H
              have c17b0 : decide (x4_2 < (t185.length : Int)) = true := decide_eq_true c17
              clear c17
              by_cases c18 : 0 ≤ x4_2
              · rw [if_pos c18] at H
                have c18b0 : decide (0 ≤ x4_2) = true := decide_eq_true c18
                clear c18
                obtain ⟨bq19, hbq19⟩ : ∃ b_ : Bool, b_ = ((rd_T75 t185 x4_2).f2) := ⟨_, rfl⟩
                replace H : (if (bq19 = true) then (if ((rd_T75 t185 x4_2).f0) < 32 then (some false) else (if ((rd_T75 t185 x4_2).f0) ≥ 127 then (if ((rd_T75 t185 x4_2).f0) ≤ 159 then (some false) else (if ((rd_T75 t185 x4_2).f0) = 47 then (some false) else (if ((rd_T75 t185 x4_2).f0) = 65533 then (some false) else (scriniumref10_Right.l0 k2 t185 (wrap64 (x4_2 + 1)))))) else (if ((rd_T75 t185 x4_2).f0) = 47 then (some false) else (if ((rd_T75 t185 x4_2).f0) = 65533 then (some false) else (scriniumref10_Right.l0 k2 t185 (wrap64 (x4_2 + 1))))))) else (some false)) = some r := by rw [← hbq19] at H; exact H
                have Nbq19 := Aside0.mk hbq19
                clear hbq19
                by_cases c20 : (bq19 = true)
                · subst c20
                  have H1 : (if ((rd_T75 t185 x4_2).f0) < 32 then (some false) else (if ((rd_T75 t185 x4_2).f0) ≥ 127 then (if ((rd_T75 t185 x4_2).f0) ≤ 159 then (some false) else (if ((rd_T75 t185 x4_2).f0) = 47 then (some false) else (if ((rd_T75 t185 x4_2).f0) = 65533 then (some false) else (scriniumref10_Right.l0 k2 t185 (wrap64 (x4_2 + 1)))))) else (if ((rd_T75 t185 x4_2).f0) = 47 then (some false) else (if ((rd_T75 t185 x4_2).f0) = 65533 then (some false) else (scriniumref10_Right.l0 k2 t185 (wrap64 (x4_2 + 1))))))) = some r := by rw [if_pos rfl] at H; exact H
                  clear H
                  have H := H1
                  clear H1
                  by_cases c21 : ((rd_T75 t185 x4_2).f0) < 32
                  · rw [if_pos c21] at H
                    have c21b0 : decide (((rd_T75 t185 x4_2).f0) < 32) = true := decide_eq_true c21
                    clear c21
                    obtain rfl := Option.some.inj H
                    obtain ⟨Ao22, co22, eo22⟩ := Kd.R_slice HO_3.out
                    subst eo22
                    have p190 : 0 ≤ (x4_2 : Int) := of_decide_eq_true (by first | (with_reducible assumption) | assumption)
                    have q190 : x4_2 < (t185.length : Int) := of_decide_eq_true (by first | (with_reducible assumption) | assumption)
                    obtain ⟨ad190, e190, hx190_0, hx190_1, hx190_2⟩ := at_T75 (Kd.R_reads' HO_3.out).2.2 x4_2 p190 q190
                    (try rw [← Nbq19.out] at hx190_2)
                    cases e190
                    replace p190 := eq_true p190
                    replace q190 := eq_true q190
                    have p191 : 0 ≤ (x4_2 : Int) := of_decide_eq_true (by first | (with_reducible assumption) | assumption)
                    have q191 : x4_2 < (t185.length : Int) := of_decide_eq_true (by first | (with_reducible assumption) | assumption)
                    obtain ⟨ad191, e191, hx191_0, hx191_1, hx191_2⟩ := at_T75 (Kd.R_reads' HO_3.out).2.2 x4_2 p191 q191
                    (try rw [← Nbq19.out] at hx191_2)
                    obtain rfl : ad190 = ad191 := (by injection e191)
                    replace p191 := eq_true p191
                    replace q191 := eq_true q191
                    go_wp2
                    go_ret
                    exact ⟨by first | rfl | (simp [errW_none, errW_some] <;> rfl) | (simp [*, errW_none, errW_some] <;> rfl), by repeat (first | (with_reducible first | exact HB.out | apply below_alloc | apply pw_below_drewN | apply below_drew1) | exact HB.out)⟩
                  · rw [if_neg c21] at H
                    have c21b0 : decide (((rd_T75 t185 x4_2).f0) < 32) = false := decide_eq_false c21
                    clear c21
                    by_cases c23 : ((rd_T75 t185 x4_2).f0) ≥ 127
                    · rw [if_pos c23] at H
                      have c23b0 : decide (127 ≤ ((rd_T75 t185 x4_2).f0)) = true := decide_eq_true c23
                      clear c23
                      by_cases c24 : ((rd_T75 t185 x4_2).f0) ≤ 159
                      · rw [if_pos c24] at H
                        have c24b0 : decide (((rd_T75 t185 x4_2).f0) ≤ 159) = true := decide_eq_true c24
                        clear c24
                        obtain rfl := Option.some.inj H
                        obtain ⟨Ao25, co25, eo25⟩ := Kd.R_slice HO_3.out
                        subst eo25
                        have p190 : 0 ≤ (x4_2 : Int) := of_decide_eq_true (by first | (with_reducible assumption) | assumption)
                        have q190 : x4_2 < (t185.length : Int) := of_decide_eq_true (by first | (with_reducible assumption) | assumption)
                        obtain ⟨ad190, e190, hx190_0, hx190_1, hx190_2⟩ := at_T75 (Kd.R_reads' HO_3.out).2.2 x4_2 p190 q190
                        (try rw [← Nbq19.out] at hx190_2)
                        cases e190
                        replace p190 := eq_true p190
                        replace q190 := eq_true q190
                        have p191 : 0 ≤ (x4_2 : Int) := of_decide_eq_true (by first | (with_reducible assumption) | assumption)
                        have q191 : x4_2 < (t185.length : Int) := of_decide_eq_true (by first | (with_reducible assumption) | assumption)
                        obtain ⟨ad191, e191, hx191_0, hx191_1, hx191_2⟩ := at_T75 (Kd.R_reads' HO_3.out).2.2 x4_2 p191 q191
                        (try rw [← Nbq19.out] at hx191_2)
                        obtain rfl : ad190 = ad191 := (by injection e191)
                        replace p191 := eq_true p191
                        replace q191 := eq_true q191
                        go_wp2
                        go_ret
                        exact ⟨by first | rfl | (simp [errW_none, errW_some] <;> rfl) | (simp [*, errW_none, errW_some] <;> rfl), by repeat (first | (with_reducible first | exact HB.out | apply below_alloc | apply pw_below_drewN | apply below_drew1) | exact HB.out)⟩
                      · rw [if_neg c24] at H
                        have c24b0 : decide (((rd_T75 t185 x4_2).f0) ≤ 159) = false := decide_eq_false c24
                        clear c24
                        by_cases c26 : ((rd_T75 t185 x4_2).f0) = 47
                        · rw [if_pos c26] at H
                          have c26b0 : (((rd_T75 t185 x4_2).f0) == 47) = true := beq_iff_eq.mpr c26
                          have c26b1 : (((rd_T75 t185 x4_2).f0) != 47) = false := bne_eq_false_iff_eq.mpr c26
                          clear c26
                          obtain rfl := Option.some.inj H
                          obtain ⟨Ao27, co27, eo27⟩ := Kd.R_slice HO_3.out
                          subst eo27
                          have p190 : 0 ≤ (x4_2 : Int) := of_decide_eq_true (by first | (with_reducible assumption) | assumption)
                          have q190 : x4_2 < (t185.length : Int) := of_decide_eq_true (by first | (with_reducible assumption) | assumption)
                          obtain ⟨ad190, e190, hx190_0, hx190_1, hx190_2⟩ := at_T75 (Kd.R_reads' HO_3.out).2.2 x4_2 p190 q190
                          (try rw [← Nbq19.out] at hx190_2)
                          cases e190
                          replace p190 := eq_true p190
                          replace q190 := eq_true q190
                          have p191 : 0 ≤ (x4_2 : Int) := of_decide_eq_true (by first | (with_reducible assumption) | assumption)
                          have q191 : x4_2 < (t185.length : Int) := of_decide_eq_true (by first | (with_reducible assumption) | assumption)
                          obtain ⟨ad191, e191, hx191_0, hx191_1, hx191_2⟩ := at_T75 (Kd.R_reads' HO_3.out).2.2 x4_2 p191 q191
                          (try rw [← Nbq19.out] at hx191_2)
                          obtain rfl : ad190 = ad191 := (by injection e191)
                          replace p191 := eq_true p191
                          replace q191 := eq_true q191
                          go_wp2
                          go_ret
                          exact ⟨by first | rfl | (simp [errW_none, errW_some] <;> rfl) | (simp [*, errW_none, errW_some] <;> rfl), by repeat (first | (with_reducible first | exact HB.out | apply below_alloc | apply pw_below_drewN | apply below_drew1) | exact HB.out)⟩
                        · rw [if_neg c26] at H
                          have c26b0 : (((rd_T75 t185 x4_2).f0) == 47) = false := beq_eq_false_iff_ne.mpr c26
                          have c26b1 : (((rd_T75 t185 x4_2).f0) != 47) = true := bne_iff_ne.mpr c26
                          by_cases c28 : ((rd_T75 t185 x4_2).f0) = 65533
                          · rw [if_pos c28] at H
                            have c28b0 : (((rd_T75 t185 x4_2).f0) == 65533) = true := beq_iff_eq.mpr c28
                            have c28b1 : (((rd_T75 t185 x4_2).f0) != 65533) = false := bne_eq_false_iff_eq.mpr c28
                            clear c28
                            obtain rfl := Option.some.inj H
                            obtain ⟨Ao29, co29, eo29⟩ := Kd.R_slice HO_3.out
                            subst eo29
                            have p190 : 0 ≤ (x4_2 : Int) := of_decide_eq_true (by first | (with_reducible assumption) | assumption)
                            have q190 : x4_2 < (t185.length : Int) := of_decide_eq_true (by first | (with_reducible assumption) | assumption)
                            obtain ⟨ad190, e190, hx190_0, hx190_1, hx190_2⟩ := at_T75 (Kd.R_reads' HO_3.out).2.2 x4_2 p190 q190
                            (try rw [← Nbq19.out] at hx190_2)
                            cases e190
                            replace p190 := eq_true p190
                            replace q190 := eq_true q190
                            have p191 : 0 ≤ (x4_2 : Int) := of_decide_eq_true (by first | (with_reducible assumption) | assumption)
                            have q191 : x4_2 < (t185.length : Int) := of_decide_eq_true (by first | (with_reducible assumption) | assumption)
                            obtain ⟨ad191, e191, hx191_0, hx191_1, hx191_2⟩ := at_T75 (Kd.R_reads' HO_3.out).2.2 x4_2 p191 q191
                            (try rw [← Nbq19.out] at hx191_2)
                            obtain rfl : ad190 = ad191 := (by injection e191)
                            replace p191 := eq_true p191
                            replace q191 := eq_true q191
                            go_wp2
                            go_ret
                            exact ⟨by first | rfl | (simp [errW_none, errW_some] <;> rfl) | (simp [*, errW_none, errW_some] <;> rfl), by repeat (first | (with_reducible first | exact HB.out | apply below_alloc | apply pw_below_drewN | apply below_drew1) | exact HB.out)⟩
                          · rw [if_neg c28] at H
                            have c28b0 : (((rd_T75 t185 x4_2).f0) == 65533) = false := beq_eq_false_iff_ne.mpr c28
                            have c28b1 : (((rd_T75 t185 x4_2).f0) != 65533) = true := bne_iff_ne.mpr c28
                            have H' := Aside0.mk H
                            clear H
                            obtain ⟨Ao30, co30, eo30⟩ := Kd.R_slice HO_3.out
                            subst eo30
                            have p190 : 0 ≤ (x4_2 : Int) := of_decide_eq_true (by first | (with_reducible assumption) | assumption)
                            have q190 : x4_2 < (t185.length : Int) := of_decide_eq_true (by first | (with_reducible assumption) | assumption)
                            obtain ⟨ad190, e190, hx190_0, hx190_1, hx190_2⟩ := at_T75 (Kd.R_reads' HO_3.out).2.2 x4_2 p190 q190
                            (try rw [← Nbq19.out] at hx190_2)
                            cases e190
                            replace p190 := eq_true p190
                            replace q190 := eq_true q190
                            have p191 : 0 ≤ (x4_2 : Int) := of_decide_eq_true (by first | (with_reducible assumption) | assumption)
                            have q191 : x4_2 < (t185.length : Int) := of_decide_eq_true (by first | (with_reducible assumption) | assumption)
                            obtain ⟨ad191, e191, hx191_0, hx191_1, hx191_2⟩ := at_T75 (Kd.R_reads' HO_3.out).2.2 x4_2 p191 q191
                            (try rw [← Nbq19.out] at hx191_2)
                            obtain rfl : ad190 = ad191 := (by injection e191)
                            replace p191 := eq_true p191
                            replace q191 := eq_true q191
                            go_wp2
                            go_roundg k2
                            case measure => have := HJ2.out; have := HK2.out; omega
                            case rel => exact ⟨(wrap64 (x4_2 + 1)), (by first | rfl | (simp; done) | (simp [*]; done)), H', ⟨by have := HJ2.out; have := HK2.out; omega⟩, ⟨by (with_reducible repeat (first | apply Kd.R_alloc | apply Kd.R_drewN | apply Kd.R_drew)); exact HO_3.out⟩, ⟨by repeat (first | (with_reducible first | exact HB.out | apply below_alloc | apply pw_below_drewN | apply below_drew1) | exact HB.out)⟩⟩
                    · rw [if_neg c23] at H
                      have c23b0 : decide (127 ≤ ((rd_T75 t185 x4_2).f0)) = false := decide_eq_false c23
                      clear c23
                      by_cases c31 : ((rd_T75 t185 x4_2).f0) = 47
                      · rw [if_pos c31] at H
                        have c31b0 : (((rd_T75 t185 x4_2).f0) == 47) = true := beq_iff_eq.mpr c31
                        have c31b1 : (((rd_T75 t185 x4_2).f0) != 47) = false := bne_eq_false_iff_eq.mpr c31
                        clear c31
                        obtain rfl := Option.some.inj H
                        obtain ⟨Ao32, co32, eo32⟩ := Kd.R_slice HO_3.out
                        subst eo32
                        have p190 : 0 ≤ (x4_2 : Int) := of_decide_eq_true (by first | (with_reducible assumption) | assumption)
                        have q190 : x4_2 < (t185.length : Int) := of_decide_eq_true (by first | (with_reducible assumption) | assumption)
                        obtain ⟨ad190, e190, hx190_0, hx190_1, hx190_2⟩ := at_T75 (Kd.R_reads' HO_3.out).2.2 x4_2 p190 q190
                        (try rw [← Nbq19.out] at hx190_2)
                        cases e190
                        replace p190 := eq_true p190
                        replace q190 := eq_true q190
                        have p191 : 0 ≤ (x4_2 : Int) := of_decide_eq_true (by first | (with_reducible assumption) | assumption)
                        have q191 : x4_2 < (t185.length : Int) := of_decide_eq_true (by first | (with_reducible assumption) | assumption)
                        obtain ⟨ad191, e191, hx191_0, hx191_1, hx191_2⟩ := at_T75 (Kd.R_reads' HO_3.out).2.2 x4_2 p191 q191
                        (try rw [← Nbq19.out] at hx191_2)
                        obtain rfl : ad190 = ad191 := (by injection e191)
                        replace p191 := eq_true p191
                        replace q191 := eq_true q191
                        go_wp2
                        go_ret
                        exact ⟨by first | rfl | (simp [errW_none, errW_some] <;> rfl) | (simp [*, errW_none, errW_some] <;> rfl), by repeat (first | (with_reducible first | exact HB.out | apply below_alloc | apply pw_below_drewN | apply below_drew1) | exact HB.out)⟩
                      · rw [if_neg c31] at H
                        have c31b0 : (((rd_T75 t185 x4_2).f0) == 47) = false := beq_eq_false_iff_ne.mpr c31
                        have c31b1 : (((rd_T75 t185 x4_2).f0) != 47) = true := bne_iff_ne.mpr c31
                        by_cases c33 : ((rd_T75 t185 x4_2).f0) = 65533
                        · rw [if_pos c33] at H
                          have c33b0 : (((rd_T75 t185 x4_2).f0) == 65533) = true := beq_iff_eq.mpr c33
                          have c33b1 : (((rd_T75 t185 x4_2).f0) != 65533) = false := bne_eq_false_iff_eq.mpr c33
                          clear c33
                          obtain rfl := Option.some.inj H
                          obtain ⟨Ao34, co34, eo34⟩ := Kd.R_slice HO_3.out
                          subst eo34
                          have p190 : 0 ≤ (x4_2 : Int) := of_decide_eq_true (by first | (with_reducible assumption) | assumption)
                          have q190 : x4_2 < (t185.length : Int) := of_decide_eq_true (by first | (with_reducible assumption) | assumption)
                          obtain ⟨ad190, e190, hx190_0, hx190_1, hx190_2⟩ := at_T75 (Kd.R_reads' HO_3.out).2.2 x4_2 p190 q190
                          (try rw [← Nbq19.out] at hx190_2)
                          cases e190
                          replace p190 := eq_true p190
                          replace q190 := eq_true q190
                          have p191 : 0 ≤ (x4_2 : Int) := of_decide_eq_true (by first | (with_reducible assumption) | assumption)
                          have q191 : x4_2 < (t185.length : Int) := of_decide_eq_true (by first | (with_reducible assumption) | assumption)
                          obtain ⟨ad191, e191, hx191_0, hx191_1, hx191_2⟩ := at_T75 (Kd.R_reads' HO_3.out).2.2 x4_2 p191 q191
                          (try rw [← Nbq19.out] at hx191_2)
                          obtain rfl : ad190 = ad191 := (by injection e191)
                          replace p191 := eq_true p191
                          replace q191 := eq_true q191
                          go_wp2
                          go_ret
                          exact ⟨by first | rfl | (simp [errW_none, errW_some] <;> rfl) | (simp [*, errW_none, errW_some] <;> rfl), by repeat (first | (with_reducible first | exact HB.out | apply below_alloc | apply pw_below_drewN | apply below_drew1) | exact HB.out)⟩
                        · rw [if_neg c33] at H
                          have c33b0 : (((rd_T75 t185 x4_2).f0) == 65533) = false := beq_eq_false_iff_ne.mpr c33
                          have c33b1 : (((rd_T75 t185 x4_2).f0) != 65533) = true := bne_iff_ne.mpr c33
                          have H' := Aside0.mk H
                          clear H
                          obtain ⟨Ao35, co35, eo35⟩ := Kd.R_slice HO_3.out
                          subst eo35
                          have p190 : 0 ≤ (x4_2 : Int) := of_decide_eq_true (by first | (with_reducible assumption) | assumption)
                          have q190 : x4_2 < (t185.length : Int) := of_decide_eq_true (by first | (with_reducible assumption) | assumption)
                          obtain ⟨ad190, e190, hx190_0, hx190_1, hx190_2⟩ := at_T75 (Kd.R_reads' HO_3.out).2.2 x4_2 p190 q190
                          (try rw [← Nbq19.out] at hx190_2)
                          cases e190
                          replace p190 := eq_true p190
                          replace q190 := eq_true q190
                          have p191 : 0 ≤ (x4_2 : Int) := of_decide_eq_true (by first | (with_reducible assumption) | assumption)
                          have q191 : x4_2 < (t185.length : Int) := of_decide_eq_true (by first | (with_reducible assumption) | assumption)
                          obtain ⟨ad191, e191, hx191_0, hx191_1, hx191_2⟩ := at_T75 (Kd.R_reads' HO_3.out).2.2 x4_2 p191 q191
                          (try rw [← Nbq19.out] at hx191_2)
                          obtain rfl : ad190 = ad191 := (by injection e191)
                          replace p191 := eq_true p191
                          replace q191 := eq_true q191
                          go_wp2
                          go_roundg k2
                          case measure => have := HJ2.out; have := HK2.out; omega
                          case rel => exact ⟨(wrap64 (x4_2 + 1)), (by first | rfl | (simp; done) | (simp [*]; done)), H', ⟨by have := HJ2.out; have := HK2.out; omega⟩, ⟨by (with_reducible repeat (first | apply Kd.R_alloc | apply Kd.R_drewN | apply Kd.R_drew)); exact HO_3.out⟩, ⟨by repeat (first | (with_reducible first | exact HB.out | apply below_alloc | apply pw_below_drewN | apply below_drew1) | exact HB.out)⟩⟩
                · replace c20 := Bool.eq_false_iff.mpr c20
                  subst c20
                  have H1 : (some false) = some r := by rw [if_neg (show ¬ (false = true) by decide)] at H; exact H
                  clear H
                  have H := H1
                  clear H1
                  obtain rfl := Option.some.inj H
                  obtain ⟨Ao36, co36, eo36⟩ := Kd.R_slice HO_3.out
                  subst eo36
                  have p190 : 0 ≤ (x4_2 : Int) := of_decide_eq_true (by first | (with_reducible assumption) | assumption)
                  have q190 : x4_2 < (t185.length : Int) := of_decide_eq_true (by first | (with_reducible assumption) | assumption)
                  obtain ⟨ad190, e190, hx190_0, hx190_1, hx190_2⟩ := at_T75 (Kd.R_reads' HO_3.out).2.2 x4_2 p190 q190
                  (try rw [← Nbq19.out] at hx190_2)
                  cases e190
                  replace p190 := eq_true p190
                  replace q190 := eq_true q190
                  have p191 : 0 ≤ (x4_2 : Int) := of_decide_eq_true (by first | (with_reducible assumption) | assumption)
                  have q191 : x4_2 < (t185.length : Int) := of_decide_eq_true (by first | (with_reducible assumption) | assumption)
                  obtain ⟨ad191, e191, hx191_0, hx191_1, hx191_2⟩ := at_T75 (Kd.R_reads' HO_3.out).2.2 x4_2 p191 q191
                  (try rw [← Nbq19.out] at hx191_2)
                  obtain rfl : ad190 = ad191 := (by injection e191)
                  replace p191 := eq_true p191
                  replace q191 := eq_true q191
                  go_wp2
                  go_ret
                  exact ⟨by first | rfl | (simp [errW_none, errW_some] <;> rfl) | (simp [*, errW_none, errW_some] <;> rfl), by repeat (first | (with_reducible first | exact HB.out | apply below_alloc | apply pw_below_drewN | apply below_drew1) | exact HB.out)⟩
              · rw [if_neg c18] at H
                exact absurd H (by simp)
            · rw [if_neg c17] at H
              have c17b0 : decide (x4_2 < (t185.length : Int)) = false := decide_eq_false c17
              clear c17
              obtain rfl := Option.some.inj H
              obtain ⟨Ao37, co37, eo37⟩ := Kd.R_slice HO_3.out
              subst eo37
              go_wp2
              go_ret
              exact ⟨by first | rfl | (simp [errW_none, errW_some] <;> rfl) | (simp [*, errW_none, errW_some] <;> rfl), by repeat (first | (with_reducible first | exact HB.out | apply below_alloc | apply pw_below_drewN | apply below_drew1) | exact HB.out)⟩
end Go.Proofs.YtkabjbkefoipnaaDoor.PM
