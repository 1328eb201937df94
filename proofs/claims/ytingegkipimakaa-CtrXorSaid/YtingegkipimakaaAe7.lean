/- New: the walk. -/
import Derived.Test.YtingegkipimakaaAe6
import Derived.Laws.Cover3
namespace Go.Proofs.Ytingegkipimakaa.Ae
open Go.RowKit Go.Proofs.YtingegkipimakaaW.PrintWords Go.Proofs.YtingegkipimakaaW.PrintLast Go.Proofs.YtingegkipimakaaW.PrintMore Go.Proofs.Ytingegkipimakaa.PA
set_option linter.unusedVariables false
set_option linter.unusedSimpArgs false

theorem build_bk {P : Program} {ops : Array Oper} {rest : List Oper} {o : Oper} {a : Act} {w : World} {Q : Exit → Act → World → Prop} (t : TypeId) (parts : Array (Nat × Operand)) (ho : o.op = .build t parts) (hgd : o.guard = none)
    (l : List Int) (vs : List (Nat × Value)) (hv : (parts.toList.map fun (i, x) => (i, a.eval x)) = vs) (hb : P.built t vs = some (u8s l)) (h : wpList P ops Q rest (a.put o.dst (.agg (u8s l))) w) : wpList P ops Q (o :: rest) a w :=
  wpList_build hgd t parts ho (by rw [Array.toList_map, hv, hb]; rfl) (by rw [Array.toList_map, hv, hb]; exact h)

/-- Where New stands: the key's copy, the box, the words. -/
structure Nw (w W : World) (key : List Int) (gb gw : Nat) (ks l : List Int) : Prop where
  below : Below w.heap.size w W
  key : Bk W w.heap.size 23 key
  box : Bk W gb 51 (tabL ++ ks)
  ws : Bk W gw 53 l
  gb0 : w.heap.size < gb
  gw0 : gb < gw

theorem Nw.set {w W : World} {key ks l : List Int} {gb gw : Nat} (h : Nw w W key gb gw ks l) (j : Nat) (v : Int) : Nw w (W.setCell ⟨gw, j, none⟩ (.int .u8 v)) key gb gw ks (l.set j v) :=
  ⟨h.below.setCell (by show w.heap.size ≤ gw; have := h.gb0; have := h.gw0; omega) _, h.key.other _ _ (by show w.heap.size ≠ gw; have := h.gb0; have := h.gw0; omega), h.box.other _ _ (by show gb ≠ gw; have := h.gw0; omega), h.ws.set j v, h.gb0, h.gw0⟩

theorem Nw.alloc {w W : World} {key ks l : List Int} {gb gw : Nat} (h : Nw w W key gb gw ks l) (o : Obj) : Nw w (W.alloc o) key gb gw ks l :=
  ⟨h.below.alloc h.below.size _, h.key.alloc _, h.box.alloc _, h.ws.alloc _, h.gb0, h.gw0⟩
/-- In a round of the second loop: x's block besides. -/
structure Nx (w W : World) (key : List Int) (gb gw gx : Nat) (ks l x : List Int) : Prop where
  n : Nw w W key gb gw ks l
  x : Bk W gx 52 x
  lt : gw < gx
theorem Nx.setX {w W : World} {key ks l x : List Int} {gb gw gx : Nat} (h : Nx w W key gb gw gx ks l x) (j : Nat) (v : Int) : Nx w (W.setCell ⟨gx, j, none⟩ (.int .u8 v)) key gb gw gx ks l (x.set j v) := by
  have := h.lt
  have := h.n.gb0
  have := h.n.gw0
  exact ⟨⟨h.n.below.setCell (by show w.heap.size ≤ gx; omega) _, h.n.key.other _ _ (by show w.heap.size ≠ gx; omega), h.n.box.other _ _ (by show gb ≠ gx; omega), h.n.ws.other _ _ (by show gw ≠ gx; omega), h.n.gb0, h.n.gw0⟩, h.x.set j v, h.lt⟩
theorem Nx.setW {w W : World} {key ks l x : List Int} {gb gw gx : Nat} (h : Nx w W key gb gw gx ks l x) (j : Nat) (v : Int) : Nx w (W.setCell ⟨gw, j, none⟩ (.int .u8 v)) key gb gw gx ks (l.set j v) x :=
  ⟨h.n.set j v, h.x.other _ _ (by have := h.lt; show gx ≠ gw; omega), h.lt⟩
theorem Nx.drew {w W : World} {key ks l x : List Int} {gb gw gx : Nat} (h : Nx w W key gb gw gx ks l x) : Nx w W.drew key gb gw gx ks l x :=
  ⟨⟨h.n.below.drew, h.n.key, h.n.box, h.n.ws, h.n.gb0, h.n.gw0⟩, h.x, h.lt⟩

theorem set_app (T ks : List Int) (hT : T.length = 256) (m : Nat) (v : Int) : (T ++ ks).set (256 + m) v = T ++ ks.set m v := by
  rw [List.set_append, if_neg (by omega), hT, Nat.add_sub_cancel_left]
theorem Nw.setBox {w W : World} {key ks l : List Int} {gb gw : Nat} (h : Nw w W key gb gw ks l) (m : Nat) (v : Int) : Nw w (W.setCell ⟨gb, 256 + m, none⟩ (.int .u8 v)) key gb gw (ks.set m v) l := by
  have := h.gb0
  have := h.gw0
  refine ⟨h.below.setCell (by show w.heap.size ≤ gb; omega) _, h.key.other _ _ (by show w.heap.size ≠ gb; omega), ?_, h.ws.other _ _ (by show gw ≠ gb; omega), h.gb0, h.gw0⟩
  have e := h.box.set (256 + m) v
  rw [set_app tabL ks tabL_length] at e
  exact e
theorem Nw.drew {w W : World} {key ks l : List Int} {gb gw : Nat} (h : Nw w W key gb gw ks l) : Nw w W.drew key gb gw ks l := ⟨h.below.drew, h.key, h.box, h.ws, h.gb0, h.gw0⟩
/-- The first m bytes, then zeros. -/
def cpL (ws : List Int) : Nat → List Int
  | 0 => List.replicate 240 0
  | m + 1 => (cpL ws m).set m (ws.getD m 0)
theorem cpL_zero (ws : List Int) : cpL ws 0 = List.replicate 240 0 := rfl
theorem cpL_succ (ws : List Int) (m : Nat) : cpL ws (m + 1) = (cpL ws m).set m (ws.getD m 0) := rfl
theorem cpL_length (ws : List Int) (m : Nat) : (cpL ws m).length = 240 := by
  induction m with
  | zero => exact List.length_replicate
  | succ m ih => rw [cpL_succ, List.length_set, ih]
theorem cpL_getD (ws : List Int) (m : Nat) (hm : m ≤ 240) (j : Nat) : (cpL ws m).getD j 0 = if j < m then ws.getD j 0 else 0 := by
  induction m with
  | zero => rw [cpL_zero, zeros_getD, if_neg (Nat.not_lt_zero _)]
  | succ m ih =>
    rw [cpL_succ, getD_set, cpL_length, ih (by omega)]
    by_cases h : m = j
    · subst h; rw [if_pos ⟨rfl, by omega⟩, if_pos (by omega)]
    · rw [if_neg (by omega)]
      by_cases h2 : j < m
      · rw [if_pos h2, if_pos (by omega)]
      · rw [if_neg h2, if_neg (by omega)]
theorem cpL_all (ws : List Int) (h : ws.length = 240) : cpL ws 240 = ws := by
  apply List.ext_getElem?
  intro j
  have hl := cpL_length ws 240
  by_cases hj : j < 240
  · have e := cpL_getD ws 240 (Nat.le_refl _) j
    rw [if_pos hj, List.getD_eq_getElem?_getD, List.getD_eq_getElem?_getD, List.getElem?_eq_getElem (by omega), List.getElem?_eq_getElem (by omega)] at e
    rw [List.getElem?_eq_getElem (by omega), List.getElem?_eq_getElem (by omega)]
    exact congrArg some e
  · rw [List.getElem?_eq_none (by omega), List.getElem?_eq_none (by omega)]
theorem wrd_end (t key : List Int) : (wrd t key 52).1 = wordsL t key := rfl

attribute [local irreducible] tabL wrd init4 cpL wordsL in
set_option maxHeartbeats 1000000 in
set_option maxRecDepth 20000 in
theorem new_calls (w : World) (key : List Int) (hk : key.length = 32) (hkb : By key) :
    Calls Try.prog 12 #[.agg (u8s key)] w fun e w' => ∃ g, e = .returned (.pointer (some ⟨g, 0, none⟩)) ∧ w.heap.size ≤ g ∧ Bk w' g 51 (boxL key) ∧ Below w.heap.size w w' := by
  have hz := (zero_of_info (P := Try.prog) (t := 53) (v := .agg (u8s (List.replicate 240 0))) (n := 240) (by kernel_rfl)).1
  obtain ⟨z, hz240⟩ : ∃ l, l = List.replicate 240 (0 : Int) := ⟨_, rfl⟩
  rw [← hz240] at hz
  have HZ := Aside0.mk hz240
  have HB := Aside0.mk (built_box tabL tabL_length)
  have HK := Aside0.mk hk
  have HKB := Aside0.mk hkb
  rw [← hz240] at HB
  clear hz240 hk hkb
  go_enter Try.func12, Try.ntmps12
  go_wp2_with fail
  refine (table_calls _).mono ?_
  rintro e w1 ⟨rfl, hb1⟩
  have B1 := Aside0.mk hb1
  clear hb1
  go_wp2_with (first | ((with_reducible refine build_bk (o := { dst := some _, op := .build 51 #[(0, .tmp 13)], type := _, pos := _, after := _, guard := _ }) 51 #[(0, .tmp 13)] rfl rfl (tabL ++ z) [(0, .agg (u8s tabL))] ?_ HB.out ?_); (rfl)))
  have s1 := B1.out.size
  rw [alloc_size] at s1
  have N0 := Aside0.mk (show Nw w ((w1.alloc (Obj.cells (u8s (tabL ++ z)) 51)).alloc (Obj.cells (u8s z) 53)) key w1.heap.size (w1.heap.size + 1) z z from
    ⟨((((Below.refl _ _).alloc (Nat.le_refl _) _).trans (B1.out.mono (by rw [alloc_size]; omega))).alloc (by omega) _).alloc (by rw [alloc_size]; omega) _,
     (((Bk.new w _ key).below B1.out (by rw [alloc_size]; omega)).alloc _).alloc _, (Bk.new _ _ _).alloc _, by have := Bk.new (w1.alloc (Obj.cells (u8s (tabL ++ z)) 51)) 53 z; rw [alloc_size] at this; exact this, by omega, by omega⟩)
  obtain ⟨gb, hgb⟩ : ∃ gb, w1.heap.size = gb := ⟨_, rfl⟩
  rw [hgb] at N0 ⊢
  clear hz HB B1 s1 hgb
  go_loopg [16] 8 (fun kq v16 w' => ∃ (n : Nat), v16 = .int .i64 (n : Int) ∧ Aside0 (n + kq = 8) ∧ Aside0 (Nw w w' key gb (gb + 1) z (init4 key n)))
  case atStart => exact ⟨0, rfl, ⟨rfl⟩, ⟨by rw [show init4 key 0 = z from (init4_zero key).trans HZ.out.symm]; exact N0.out⟩⟩
  case round =>
    clear N0
    obtain ⟨n, rfl, HQ, HN⟩ := hrel
    have hq := HQ.out
    cases gk with
    | zero =>
      obtain rfl : n = 8 := by omega
      clear hq HQ
      go_wp2_with fail
      go_loopg [6, 7] 52 (fun kq v6 v7 w' => ∃ (n : Nat), v6 = .int .u8 (wrd tabL key n).2 ∧ v7 = .int .i64 ((n + 8 : Nat) : Int) ∧ Aside0 (n + kq = 52) ∧ Aside0 (Nw w w' key gb (gb + 1) z (wrd tabL key n).1))
      case atStart => exact ⟨0, by rw [wrd_zero], rfl, ⟨rfl⟩, by rw [wrd_zero]; exact HN⟩
      case round =>
        clear HN
        obtain ⟨n, rfl, rfl, HQ, HN⟩ := hrel
        have hq := HQ.out
        cases gk with
        | zero =>
          obtain rfl : n = 52 := by omega
          clear hq HQ
          go_wp2_with fail
          have hwl := wrd_length tabL key 52
          rw [wrd_end] at HN hwl
          have HWL := Aside0.mk hwl
          obtain ⟨ws, hws⟩ : ∃ ws, wordsL tabL key = ws := ⟨_, rfl⟩
          rw [hws] at HN HWL
          have HWS := Aside0.mk hws
          have HN0 := Aside0.mk (show Nw w wr key gb (gb + 1) (cpL ws 0) ws by rw [cpL_zero, ← HZ.out]; exact HN.out)
          clear hwl hws HN
          go_loopg [109] 15 (fun kq v109 w' => ∃ (i : Nat), v109 = .int .i64 (i : Int) ∧ Aside0 (i + kq = 15) ∧ Aside0 (Nw w w' key gb (gb + 1) (cpL ws (16 * i)) ws))
          case atStart => exact ⟨0, rfl, ⟨rfl⟩, HN0⟩
          case round =>
            clear HN0
            obtain ⟨i, rfl, HQ, HN⟩ := hrel
            have hq := HQ.out
            cases gk with
            | zero =>
              obtain rfl : i = 15 := by omega
              clear hq HQ
              go_wp2_with fail
              go_ret
              refine ⟨gb, rfl, Nat.le_of_lt HN.out.gb0, ?_, HN.out.below⟩
              have e := HN.out.box
              rw [cpL_all ws HWL.out, ← HWS.out] at e
              exact e
            | succ k1 =>
              have hi : i < 15 := by omega
              have hi3 : (i : Int) < 15 := by omega
              clear hq
              go_wp2_with fail
              go_loopg [112] 16 (fun kr v112 w' => ∃ (k : Nat), v112 = .int .i64 (k : Int) ∧ Aside0 (k + kr = 16) ∧ Aside0 (Nw w w' key gb (gb + 1) (cpL ws (16 * i + k)) ws))
              case atStart => exact ⟨0, rfl, ⟨rfl⟩, HN⟩
              case round =>
                clear HN
                obtain ⟨k, rfl, HK2, HN⟩ := hrel
                have hk2 := HK2.out
                cases gk with
                | zero =>
                  obtain rfl : k = 16 := by omega
                  clear hk2 HK2
                  go_wp2_with fail
                  go_roundg k1
                  case measure => omega
                  case rel => exact ⟨i + 1, by simp, ⟨by have := HQ.out; omega⟩, HN⟩
                | succ k2 =>
                  have hk : k < 16 := by omega
                  have hk3 : (k : Int) < 16 := by omega
                  obtain ⟨a, ha⟩ : ∃ a, a = 4 * i + k / 4 := ⟨_, rfl⟩
                  obtain ⟨r, hr⟩ : ∃ r, r = k % 4 := ⟨_, rfl⟩
                  have har : a * 4 + r = 16 * i + k := by omega
                  have ha1 : (a : Int) < 60 := by omega
                  have hr1 : (r : Int) < 4 := by omega
                  have c0 := HN.out.ws.cell (a * 4 + r) (by rw [HWL.out]; omega)
                  have f1 := HN.out.box.frozen (256 + i * 16 + k)
                  have c1 := HN.out.box.cell (256 + i * 16 + k) (by rw [List.length_append, tabL_length, cpL_length]; omega)
                  have E1 : IntKind.i64.wrap (IntKind.i64.wrap (4 * (i : Int)) + IntKind.i64.wrap ((k : Int) / 4)) = (a : Int) := by
                    rw [IntWalk.i64_in (4 * (i : Int)) (by omega), IntWalk.i64_in ((k : Int) / 4) (by omega), IntWalk.i64_in _ (by omega)]; omega
                  have E2 : (k : Int).tmod 4 = (r : Int) := by clear E1; rw [Int.tmod_eq_emod_of_nonneg (by omega)]; omega
                  have HAR := Aside0.mk har
                  clear hk2 har ha hr
                  go_wp2_with fail
                  go_still_tail 16, (by kernel_rfl)
                  change wpList _ _ _ _ _ wr.drew
                  go_wp2_with fail
                  go_roundg k2
                  case measure => clear E1 E2; omega
                  case rel =>
                    refine ⟨k + 1, by simp, ⟨by have := HK2.out; clear E1 E2; omega⟩, ⟨?_⟩⟩
                    rw [show 16 * i + (k + 1) = (16 * i + k) + 1 from rfl, cpL_succ]
                    have e := HN.out.drew.setBox (16 * i + k) (ws.getD (16 * i + k) 0)
                    rw [show 256 + (16 * i + k) = 256 + i * 16 + k by clear E1 E2; omega] at e
                    rw [HAR.out]
                    exact e
        | succ k1 =>
          have hn : n < 52 := by omega
          obtain ⟨i, hi⟩ : ∃ i, i = n + 8 := ⟨_, rfl⟩
          obtain ⟨l, hl⟩ : ∃ l, (wrd tabL key n).1 = l := ⟨_, rfl⟩
          obtain ⟨more, hmore⟩ : ∃ l, (wrd tabL key n).2 = l := ⟨_, rfl⟩
          have hll : l.length = 240 := by rw [← hl]; exact wrd_length _ _ _
          rw [hl] at HN
          rw [hmore, ← hi]
          have HI := Aside0.mk hi
          have HL := Aside0.mk hl
          have HM := Aside0.mk hmore
          have hi1 : (i : Int) < 60 := by omega
          have hi2 : (i : Int) - 1 < 60 := by omega
          have hi3 : 0 ≤ (i : Int) - 1 := by omega
          have hi4 : ((i : Int) - 1).toNat = i - 1 := by omega
          have c0 := HN.out.ws.cell ((i - 1) * 4) (by omega)
          have c1 := HN.out.ws.cell ((i - 1) * 4 + 1) (by omega)
          have c2 := HN.out.ws.cell ((i - 1) * 4 + 2) (by omega)
          have c3 := HN.out.ws.cell ((i - 1) * 4 + 3) (by omega)
          have hlb : By l := by rw [← hl]; exact wrd_by _ HKB.out _
          obtain ⟨x0, e0⟩ : ∃ x, l.getD ((i - 1) * 4) 0 = x := ⟨_, rfl⟩
          obtain ⟨x1, e1⟩ : ∃ x, l.getD ((i - 1) * 4 + 1) 0 = x := ⟨_, rfl⟩
          obtain ⟨x2, e2⟩ : ∃ x, l.getD ((i - 1) * 4 + 2) 0 = x := ⟨_, rfl⟩
          obtain ⟨x3, e3⟩ : ∃ x, l.getD ((i - 1) * 4 + 3) 0 = x := ⟨_, rfl⟩
          have b0 := hlb ((i - 1) * 4)
          have b1 := hlb ((i - 1) * 4 + 1)
          have b2 := hlb ((i - 1) * 4 + 2)
          have b3 := hlb ((i - 1) * 4 + 3)
          rw [e0] at c0 b0
          rw [e1] at c1 b1
          rw [e2] at c2 b2
          rw [e3] at c3 b3
          have HX := Aside0.mk (show lastL l i = [x0, x1, x2, x3] by rw [← e0, ← e1, ← e2, ← e3]; rfl)
          have i1 : IntKind.i64.wrap ((i : Int) - 1) = (i : Int) - 1 := IntWalk.i64_in _ (by omega)
          have HW := Aside0.mk (show wrd tabL key (n + 1) = (keyIn l i (yL tabL l more i) 4, if i % 8 = 0 then twice more else more) by rw [wrd_succ, hl, hmore, hi])
          have HLL := Aside0.mk hll
          clear hq hi hl hmore hll e0 e1 e2 e3 hlb
          by_cases m0 : i % 8 = 0
          · have m1 : ((i : Int) % 8 == 0) = true := by rw [beq_iff_eq]; clear i1; omega
            go_wp2_with fail
            have N2 := Aside0.mk (show Nx w (wr.alloc (Obj.cells (u8s [x0, x1, x2, x3]) 52)) key gb (gb + 1) wr.heap.size z l [x0, x1, x2, x3] from ⟨HN.out.alloc _, Bk.new _ _ _, HN.out.ws.lt⟩)
            change Code.wp _ _ _ _ (wr.alloc (Obj.cells (u8s [x0, x1, x2, x3]) 52))
            clear HN c0 c1 c2 c3
            generalize wr.alloc (Obj.cells (u8s [x0, x1, x2, x3]) 52) = W2 at N2 ⊢
            generalize wr.heap.size = gx at N2 ⊢
            have c0 := N2.out.x.cell 0 (show 0 < 4 by decide)
            have c1 := N2.out.x.cell 1 (show 1 < 4 by decide)
            have c2 := N2.out.x.cell 2 (show 2 < 4 by decide)
            have c3 := N2.out.x.cell 3 (show 3 < 4 by decide)
            have hbl : (tabL ++ z).length = 496 := by rw [List.length_append, tabL_length, HZ.out, List.length_replicate]
            obtain ⟨y0, hy0⟩ : ∃ y, tabL.getD x0.toNat 0 = y := ⟨_, rfl⟩
            have t0 := N2.out.n.box.cell x0.toNat (by rw [hbl]; clear i1; omega)
            rw [box_tab z _ (by clear i1; omega), hy0] at t0
            have HY0 := Aside0.mk hy0
            obtain ⟨lo0, up0⟩ := b0
            obtain ⟨y1, hy1⟩ : ∃ y, tabL.getD x1.toNat 0 = y := ⟨_, rfl⟩
            have t1 := N2.out.n.box.cell x1.toNat (by rw [hbl]; clear i1; omega)
            rw [box_tab z _ (by clear i1; omega), hy1] at t1
            have HY1 := Aside0.mk hy1
            obtain ⟨lo1, up1⟩ := b1
            obtain ⟨y2, hy2⟩ : ∃ y, tabL.getD x2.toNat 0 = y := ⟨_, rfl⟩
            have t2 := N2.out.n.box.cell x2.toNat (by rw [hbl]; clear i1; omega)
            rw [box_tab z _ (by clear i1; omega), hy2] at t2
            have HY2 := Aside0.mk hy2
            obtain ⟨lo2, up2⟩ := b2
            obtain ⟨y3, hy3⟩ : ∃ y, tabL.getD x3.toNat 0 = y := ⟨_, rfl⟩
            have t3 := N2.out.n.box.cell x3.toNat (by rw [hbl]; clear i1; omega)
            rw [box_tab z _ (by clear i1; omega), hy3] at t3
            have HY3 := Aside0.mk hy3
            obtain ⟨lo3, up3⟩ := b3
            clear hy0 hy1 hy2 hy3 hbl
            have f0 := N2.out.x.frozen 0
            have f1 := N2.out.x.frozen 1
            have f2 := N2.out.x.frozen 2
            have f3 := N2.out.x.frozen 3
            go_still_tail 30, (by kernel_rfl)
            change wpList _ _ _ _ _ W2.drew
            go_wp2_with fail
            refine (twice_calls _ _).mono ?_
            rintro e _ ⟨rfl, rfl⟩
            have NX := Aside0.mk ((((N2.out.drew.setX 0 (Go.bits .xor .u8 y1 more)).setX 1 y2).setX 2 y3).setX 3 y0)
            clear c0 c1 c2 c3 f0 f1 f2 f3 t0 t1 t2 t3
            obtain ⟨xs, hxs⟩ : ∃ xs, xs = [Go.bits .xor .u8 y1 more, y2, y3, y0] := ⟨_, rfl⟩
            have NX0 := NX.out
            clear NX
            have NX := Aside0.mk (show Nx w _ key gb (gb + 1) gx z l xs from by rw [hxs]; exact NX0)
            clear NX0
            have HXL := Aside0.mk (show xs.length = 4 by rw [hxs]; rfl)
            have HYL := Aside0.mk (show yL tabL l more i = xs by unfold yL; rw [if_pos m0, HX.out, hxs, ← HY0.out, ← HY1.out, ← HY2.out, ← HY3.out]; rfl)
            have HMM := Aside0.mk (show (if i % 8 = 0 then twice more else more) = twice more from if_pos m0)
            have i0 : 8 ≤ i := by have := HI.out; clear i1; omega
            clear i1 hi2 hi3 hi4 hxs
            go_wp2_with fail
            go_loopg [91] 4 (fun kr v91 w' => ∃ (k : Nat), v91 = .int .i64 (k : Int) ∧ Aside0 (k + kr = 4) ∧ Aside0 (Nx w w' key gb (gb + 1) gx z (keyIn l i xs k) xs))
            case atStart => exact ⟨0, rfl, ⟨rfl⟩, NX⟩
            case round =>
              clear NX
              obtain ⟨k, rfl, HK2, NX⟩ := hrel
              have hk2 := HK2.out
              cases gk with
              | zero =>
                obtain rfl : k = 4 := by omega
                clear hk2 HK2
                go_wp2_with fail
                go_roundg k1
                case measure => omega
                case rel =>
                  refine ⟨n + 1, by rw [HW.out, HMM.out], by congr 1; have := HI.out; omega, ⟨by have := HQ.out; omega⟩, ⟨?_⟩⟩
                  rw [HW.out, HYL.out]
                  exact NX.out.n
              | succ k2 =>
                have hk : k < 4 := by omega
                have hk3 : (k : Int) < 4 := by omega
                have hi2 : (i : Int) - 8 < 60 := by omega
                have hi3 : 0 ≤ (i : Int) - 8 := by omega
                have hi5 : 8 ≤ (i : Int) := by omega
                have hi4 : ((i : Int) - 8).toNat = i - 8 := by omega
                have c0 := NX.out.n.ws.cell ((i - 8) * 4 + k) (by rw [keyIn_length, HLL.out]; omega)
                have c1 := NX.out.n.ws.cell (i * 4 + k) (by rw [keyIn_length, HLL.out]; omega)
                have c2 := NX.out.x.cell k (by rw [HXL.out]; exact hk)
                have f1 := NX.out.n.ws.frozen (i * 4 + k)
                have i1 : IntKind.i64.wrap ((i : Int) - 8) = (i : Int) - 8 := IntWalk.i64_in _ (by omega)
                clear hk2
                go_wp2_with fail
                go_still_tail 13, (by kernel_rfl)
                change wpList _ _ _ _ _ wr.drew
                go_wp2_with fail
                go_roundg k2
                case measure => clear i1; omega
                case rel =>
                  refine ⟨k + 1, by simp, ⟨by have := HK2.out; clear i1; omega⟩, ⟨?_⟩⟩
                  exact NX.out.drew.setW (i * 4 + k) _
          · have m1 : ((i : Int) % 8 == 0) = false := by rw [beq_eq_false_iff_ne]; clear i1; omega
            by_cases m4 : i % 8 = 4
            · have m5 : ((i : Int) % 8 == 4) = true := by rw [beq_iff_eq]; clear i1; omega
              go_wp2_with fail
              have N2 := Aside0.mk (show Nx w (wr.alloc (Obj.cells (u8s [x0, x1, x2, x3]) 52)) key gb (gb + 1) wr.heap.size z l [x0, x1, x2, x3] from ⟨HN.out.alloc _, Bk.new _ _ _, HN.out.ws.lt⟩)
              change Code.wp _ _ _ _ (wr.alloc (Obj.cells (u8s [x0, x1, x2, x3]) 52))
              clear HN c0 c1 c2 c3
              generalize wr.alloc (Obj.cells (u8s [x0, x1, x2, x3]) 52) = W2 at N2 ⊢
              generalize wr.heap.size = gx at N2 ⊢
              obtain ⟨xs0, hxs0⟩ : ∃ xs, xs = [x0, x1, x2, x3] := ⟨_, rfl⟩
              rw [← hxs0] at N2
              have HX0 := Aside0.mk hxs0
              clear hxs0
              have T1 : ∀ x, 0 ≤ x → x < 256 → True := fun _ _ _ => trivial
              clear T1 hi2 hi3 hi4 i1
              have HXB := Aside0.mk (show By xs0 by rw [HX0.out]; intro j; match j with | 0 => exact b0 | 1 => exact b1 | 2 => exact b2 | 3 => exact b3 | j + 4 => exact ⟨Int.le_refl 0, (by decide : (0 : Int) < 256)⟩)
              have HX4 := Aside0.mk (show xs0.length = 4 by rw [HX0.out]; rfl)
              have HBL := Aside0.mk (show (tabL ++ z).length = 496 by rw [List.length_append, tabL_length, HZ.out, List.length_replicate])
              go_loopg [77] 4 (fun kr v77 w' => ∃ (k : Nat), v77 = .int .i64 (k : Int) ∧ Aside0 (k + kr = 4) ∧ Aside0 (Nx w w' key gb (gb + 1) gx z l (mapIn tabL xs0 k)))
              case atStart => exact ⟨0, rfl, ⟨rfl⟩, N2⟩
              case round =>
                clear N2
                obtain ⟨k, rfl, HK2, NX⟩ := hrel
                have hk2 := HK2.out
                cases gk with
                | zero =>
                  obtain rfl : k = 4 := by omega
                  clear hk2 HK2
                  obtain ⟨xs, hxs⟩ : ∃ xs, xs = mapIn tabL xs0 4 := ⟨_, rfl⟩
                  rw [← hxs] at NX
                  have HXL := Aside0.mk (show xs.length = 4 by rw [hxs, mapIn_length, HX4.out])
                  have HYL := Aside0.mk (show yL tabL l more i = xs by unfold yL; rw [if_neg m0, if_pos m4, HX.out, hxs, HX0.out])
                  have HMM := Aside0.mk (show (if i % 8 = 0 then twice more else more) = more from if_neg m0)
                  have i0 : 8 ≤ i := by have := HI.out; omega
                  clear hxs
                  go_wp2_with fail
                  go_loopg [91] 4 (fun kr v91 w' => ∃ (k : Nat), v91 = .int .i64 (k : Int) ∧ Aside0 (k + kr = 4) ∧ Aside0 (Nx w w' key gb (gb + 1) gx z (keyIn l i xs k) xs))
                  case atStart => exact ⟨0, rfl, ⟨rfl⟩, NX⟩
                  case round =>
                    clear NX
                    obtain ⟨k, rfl, HK2, NX⟩ := hrel
                    have hk2 := HK2.out
                    cases gk with
                    | zero =>
                      obtain rfl : k = 4 := by omega
                      clear hk2 HK2
                      go_wp2_with fail
                      go_roundg k1
                      case measure => omega
                      case rel =>
                        refine ⟨n + 1, by rw [HW.out, HMM.out], by congr 1; have := HI.out; omega, ⟨by have := HQ.out; omega⟩, ⟨?_⟩⟩
                        rw [HW.out, HYL.out]
                        exact NX.out.n
                    | succ k2 =>
                      have hk : k < 4 := by omega
                      have hk3 : (k : Int) < 4 := by omega
                      have hi2 : (i : Int) - 8 < 60 := by omega
                      have hi3 : 0 ≤ (i : Int) - 8 := by omega
                      have hi5 : 8 ≤ (i : Int) := by omega
                      have hi4 : ((i : Int) - 8).toNat = i - 8 := by omega
                      have c0 := NX.out.n.ws.cell ((i - 8) * 4 + k) (by rw [keyIn_length, HLL.out]; omega)
                      have c1 := NX.out.n.ws.cell (i * 4 + k) (by rw [keyIn_length, HLL.out]; omega)
                      have c2 := NX.out.x.cell k (by rw [HXL.out]; exact hk)
                      have f1 := NX.out.n.ws.frozen (i * 4 + k)
                      have i1 : IntKind.i64.wrap ((i : Int) - 8) = (i : Int) - 8 := IntWalk.i64_in _ (by omega)
                      clear hk2
                      go_wp2_with fail
                      go_still_tail 13, (by kernel_rfl)
                      change wpList _ _ _ _ _ wr.drew
                      go_wp2_with fail
                      go_roundg k2
                      case measure => clear i1; omega
                      case rel =>
                        refine ⟨k + 1, by simp, ⟨by have := HK2.out; clear i1; omega⟩, ⟨?_⟩⟩
                        exact NX.out.drew.setW (i * 4 + k) _
                | succ k2 =>
                  have hk : k < 4 := by omega
                  have hk3 : (k : Int) < 4 := by omega
                  obtain ⟨x, hx⟩ : ∃ x, (mapIn tabL xs0 k).getD k 0 = x := ⟨_, rfl⟩
                  have c0 := NX.out.x.cell k (by rw [mapIn_length, HX4.out]; exact hk)
                  have f0 := NX.out.x.frozen k
                  rw [hx] at c0
                  have hxe : x = xs0.getD k 0 := by rw [← hx]; exact mapIn_at tabL xs0 k k (Nat.le_refl _)
                  obtain ⟨p0, p1⟩ := HXB.out k
                  rw [← hxe] at p0 p1
                  have c1 := NX.out.n.box.cell x.toNat (by rw [HBL.out]; omega)
                  rw [box_tab z _ (by omega)] at c1
                  have HXE := Aside0.mk hx
                  clear hk2 hx hxe
                  go_wp2_with fail
                  go_still_tail 9, (by kernel_rfl)
                  change wpList _ _ _ _ _ wr.drew
                  go_wp2_with fail
                  go_roundg k2
                  case measure => omega
                  case rel =>
                    refine ⟨k + 1, by simp, ⟨by have := HK2.out; omega⟩, ⟨?_⟩⟩
                    rw [show mapIn tabL xs0 (k + 1) = (mapIn tabL xs0 k).set k (tabL.getD x.toNat 0) from by rw [← HXE.out]; rfl]
                    exact NX.out.drew.setX k _
            · have m5 : ((i : Int) % 8 == 4) = false := by rw [beq_eq_false_iff_ne]; clear i1; omega
              go_wp2_with fail
              have N2 := Aside0.mk (show Nx w (wr.alloc (Obj.cells (u8s [x0, x1, x2, x3]) 52)) key gb (gb + 1) wr.heap.size z l [x0, x1, x2, x3] from ⟨HN.out.alloc _, Bk.new _ _ _, HN.out.ws.lt⟩)
              change Code.wp _ _ _ _ (wr.alloc (Obj.cells (u8s [x0, x1, x2, x3]) 52))
              clear HN c0 c1 c2 c3
              generalize wr.alloc (Obj.cells (u8s [x0, x1, x2, x3]) 52) = W2 at N2 ⊢
              generalize wr.heap.size = gx at N2 ⊢
              obtain ⟨xs0, hxs0⟩ : ∃ xs, xs = [x0, x1, x2, x3] := ⟨_, rfl⟩
              rw [← hxs0] at N2
              have HX0 := Aside0.mk hxs0
              clear hxs0
              have NX := N2
              clear N2
              obtain ⟨xs, hxs⟩ : ∃ xs, xs = xs0 := ⟨_, rfl⟩
              rw [← hxs] at NX
              have HXL := Aside0.mk (show xs.length = 4 by rw [hxs, HX0.out]; rfl)
              have HYL := Aside0.mk (show yL tabL l more i = xs by unfold yL; rw [if_neg m0, if_neg m4, HX.out, hxs, HX0.out])
              have HMM := Aside0.mk (show (if i % 8 = 0 then twice more else more) = more from if_neg m0)
              have i0 : 8 ≤ i := by have := HI.out; clear i1; omega
              clear i1 hi2 hi3 hi4 hxs
              go_loopg [91] 4 (fun kr v91 w' => ∃ (k : Nat), v91 = .int .i64 (k : Int) ∧ Aside0 (k + kr = 4) ∧ Aside0 (Nx w w' key gb (gb + 1) gx z (keyIn l i xs k) xs))
              case atStart => exact ⟨0, rfl, ⟨rfl⟩, NX⟩
              case round =>
                clear NX
                obtain ⟨k, rfl, HK2, NX⟩ := hrel
                have hk2 := HK2.out
                cases gk with
                | zero =>
                  obtain rfl : k = 4 := by omega
                  clear hk2 HK2
                  go_wp2_with fail
                  go_roundg k1
                  case measure => omega
                  case rel =>
                    refine ⟨n + 1, by rw [HW.out, HMM.out], by congr 1; have := HI.out; omega, ⟨by have := HQ.out; omega⟩, ⟨?_⟩⟩
                    rw [HW.out, HYL.out]
                    exact NX.out.n
                | succ k2 =>
                  have hk : k < 4 := by omega
                  have hk3 : (k : Int) < 4 := by omega
                  have hi2 : (i : Int) - 8 < 60 := by omega
                  have hi3 : 0 ≤ (i : Int) - 8 := by omega
                  have hi5 : 8 ≤ (i : Int) := by omega
                  have hi4 : ((i : Int) - 8).toNat = i - 8 := by omega
                  have c0 := NX.out.n.ws.cell ((i - 8) * 4 + k) (by rw [keyIn_length, HLL.out]; omega)
                  have c1 := NX.out.n.ws.cell (i * 4 + k) (by rw [keyIn_length, HLL.out]; omega)
                  have c2 := NX.out.x.cell k (by rw [HXL.out]; exact hk)
                  have f1 := NX.out.n.ws.frozen (i * 4 + k)
                  have i1 : IntKind.i64.wrap ((i : Int) - 8) = (i : Int) - 8 := IntWalk.i64_in _ (by omega)
                  clear hk2
                  go_wp2_with fail
                  go_still_tail 13, (by kernel_rfl)
                  change wpList _ _ _ _ _ wr.drew
                  go_wp2_with fail
                  go_roundg k2
                  case measure => clear i1; omega
                  case rel =>
                    refine ⟨k + 1, by simp, ⟨by have := HK2.out; clear i1; omega⟩, ⟨?_⟩⟩
                    exact NX.out.drew.setW (i * 4 + k) _
    | succ k1 =>
      have hn : n < 8 := by omega
      have hkl := HK.out
      have c0 := HN.out.key.cell (4 * n) (by omega)
      have c1 := HN.out.key.cell (4 * n + 1) (by omega)
      have c2 := HN.out.key.cell (4 * n + 2) (by omega)
      have c3 := HN.out.key.cell (4 * n + 3) (by omega)
      have d0 := HN.out.ws.cell (n * 4) (by rw [init4_length]; omega)
      have d1 := HN.out.ws.cell (n * 4 + 1) (by rw [init4_length]; omega)
      have d2 := HN.out.ws.cell (n * 4 + 2) (by rw [init4_length]; omega)
      have d3 := HN.out.ws.cell (n * 4 + 3) (by rw [init4_length]; omega)
      have f0 := HN.out.ws.frozen (n * 4)
      have f1 := HN.out.ws.frozen (n * 4 + 1)
      have f2 := HN.out.ws.frozen (n * 4 + 2)
      have f3 := HN.out.ws.frozen (n * 4 + 3)
      have m0 : 0 ≤ 4 * (n : Int) := by omega
      have m1 : 4 * (n : Int) ≤ 4 * (n : Int) + 4 := by omega
      have m2 : 4 * (n : Int) + 4 ≤ 32 := by omega
      have m3 : (4 * (n : Int)).toNat = 4 * n := by omega
      have m4 : (4 * (n : Int) + 4).toNat = 4 * n + 4 := by omega
      have i1 : IntKind.i64.wrap (4 * (n : Int)) = 4 * (n : Int) := IntWalk.i64_in _ (by omega)
      have i2 : IntKind.i64.wrap (4 * (n : Int) + 4) = 4 * (n : Int) + 4 := IntWalk.i64_in _ (by clear i1; omega)
      have hat : (Instr.arrayAt 52 (.slice (some ⟨w.heap.size, 4 * n, none⟩) 4 (32 - 4 * n))).run Try.prog wr = .ok (.pointer (some ⟨w.heap.size, 4 * n, none⟩)) wr := by
        refine run_arrayAt _ _ _ _ _ _ _ Try.underlying52 ?_
        exact Nat.le_refl _
      clear hkl hq
      go_wp2_with fail
      go_roundg k1
      case measure => clear i1 i2; omega
      case rel =>
        clear i1 i2
        exact ⟨n + 1, by simp, ⟨by have := HQ.out; omega⟩, ⟨by rw [init4_succ]; exact (((HN.out.set (n * 4) _).set (n * 4 + 1) _).set (n * 4 + 2) _).set (n * 4 + 3) _⟩⟩

end Go.Proofs.Ytingegkipimakaa.Ae
