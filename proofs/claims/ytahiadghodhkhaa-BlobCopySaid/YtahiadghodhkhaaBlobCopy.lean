/- blob: BlobCopy. -/
import Derived.Test.YtahiadghodhkhaaRf6
import Derived.Test.YtahiadghodhkhaaBlobQuota
import Derived.Test.YtahiadghodhkhaaPBx9
namespace Go.Proofs.Ytahiadghodhkhaa.Bl
open Go.RowKit Go.Maps Go.Proofs.YtahiadghodhkhaaW.PrintWords Go.Proofs.YtahiadghodhkhaaW.PrintLast Go.Proofs.YtahiadghodhkhaaW.PrintMore Go.Proofs.Ytahiadghodhkhaa.PB
set_option linter.unusedVariables false
set_option linter.unusedSimpArgs false

theorem rdN (l : List ByteArray) (i : Nat) (hi : i < l.length) : rdOf ByteArray.empty l (i : Int) = l[i] := by
  unfold rdOf
  rw [Int.toNat_natCast, List.getD_eq_getElem?_getD, List.getElem?_eq_getElem hi]
  rfl
theorem sameN_loop (l : List ByteArray) (hm : l.length ≤ 140737488355328) : ∀ (d k i : Nat), i + d = l.length → d < k → scriniumref16_SameNames.l0 k l l (i : Int) = some true
  | 0, k, i, hi, hk => by
    obtain ⟨k, rfl⟩ : ∃ j, k = j + 1 := ⟨k - 1, by omega⟩
    simp only [scriniumref16_SameNames.l0]
    rw [if_neg (by omega)]
  | d + 1, k, i, hi, hk => by
    obtain ⟨k, rfl⟩ : ∃ j, k = j + 1 := ⟨k - 1, by omega⟩
    have ih := sameN_loop l hm d k (i + 1) (by omega) (by omega)
    have e : wrap64 ((i : Int) + 1) = ((i + 1 : Nat) : Int) := by unfold wrap64; omega
    simp only [scriniumref16_SameNames.l0]
    rw [if_pos (by omega), if_pos (by omega), if_pos (by omega), if_pos trivial, e]
    exact ih
theorem sameN_is (l : List ByteArray) (hm : l.length ≤ 140737488355328) : scriniumref16_SameNames.f (l.length + 1) l l = some true := by
  unfold scriniumref16_SameNames.f
  rw [if_pos rfl]
  exact sameN_loop l hm l.length (l.length + 1) 0 (by omega) (by omega)
/-- Names, as a row. -/
theorem Names_R (g b : Nat) (q : Int) (L : List Ent) (nl : List ByteArray) (hnl : nl = L.map (·.1)) (w : World) (h : Bl w g b q L) (hl : L.length ≤ 100000) :
    Calls Try.prog 20 #[.pointer (some ⟨g, 0, none⟩)] w fun e w' => ∃ v, e = .returned v ∧ Kd.string.R 9 w' w.heap.size (fun _ => True) v nl ∧ Below w.heap.size w w' := by
  subst hnl
  refine (Names_calls g b q L w h hl).mono ?_
  rintro e w' ⟨v, rfl, ho, hb⟩
  refine ⟨v, rfl, Kd.R_of_own (enc := Value.string) (by rw [List.length_map]; unfold encs; rw [List.map_map]; exact ho) (fun _ _ => trivial), hb⟩
theorem RNames_R (S : List Nat) (x : Nat) (q : Int) (L : List Ent) (nl : List ByteArray) (hnl : nl = L.map (·.1)) (w : World) (h : Rf S w x q L) (hl : L.length ≤ 100000) :
    Calls Try.prog 21 #[.pointer (some ⟨x, 0, none⟩)] w fun e w' => ∃ v, e = .returned v ∧ Kd.string.R 9 w' w.heap.size (fun _ => True) v nl ∧ Below w.heap.size w w' := by
  subst hnl
  exact RNames_calls S x q L w h hl

set_option maxRecDepth 20000 in
set_option maxHeartbeats 8000000 in
theorem BlobCopy_walk (A : Option Addr) (cap : Nat) (l : List S29) (Am : Option Addr) (capm : Nat) (m : List S29) (w : World) (hc : l.length ≤ cap) (hC : Kd.C k29 w A l.length l) (hcm : m.length ≤ capm) (hCm : Kd.C k29 w Am m.length m) :
    Calls Try.prog 5 #[.slice A l.length cap, .slice Am m.length capm] w fun e w' => e = .returned (.bool true) ∧ Below w.heap.size w w' := by
  have HC2 := Aside0.mk hC
  have HC3 := Aside0.mk hCm
  clear hC hCm
  obtain ⟨lr, hlr, hlr2⟩ := long_is l
  obtain ⟨mr, hmr, hmr2⟩ := long_is m
  go_enter Try.func5, Try.ntmps5
  go_wp2_with fail
  refine (wakes_calls w).mono ?_
  rintro e w1 ⟨rfl, hb1⟩
  have B1 := Aside0.mk hb1
  clear hb1
  go_wp2_with fail
  refine (scriniumlaw19_long.calls 100 A cap l lr w1 (Kd.C_below HC2.out B1.out) hc hlr).mono ?_
  rintro e w2 ⟨rfl, hd2⟩
  have B2 := Aside0.mk (B1.out.trans (Drawn0.below hd2 |>.mono B1.out.size))
  clear hd2 hlr
  cases lr with
  | true =>
    go_wp2_with fail
    go_ret
    exact ⟨rfl, B2.out⟩
  | false =>
    have hl60 := hlr2 rfl
    clear hlr2
    go_wp2_with fail
    refine (scriniumlaw19_long.calls 100 Am capm m mr w2 (Kd.C_below HC3.out B2.out) hcm hmr).mono ?_
    rintro e w20 ⟨rfl, hd2⟩
    have B20 := Aside0.mk (B2.out.trans (Drawn0.below hd2 |>.mono B2.out.size))
    clear hd2 hmr
    cases mr with
    | true =>
      go_wp2_with fail
      go_ret
      exact ⟨rfl, B20.out⟩
    | false =>
      have hm60 := hmr2 rfl
      clear hmr2
      go_wp2_with fail
      refine (New_calls 500 w20).mono ?_
      rintro e w3 ⟨g, b, rfl, hB, hg, hbb, hb3⟩
      rw [if_neg (by omega)] at hB
      have B3 := Aside0.mk (B20.out.trans (hb3.mono B20.out.size))
      have HB3 := Aside0.mk hB
      have hbw : w.heap.size ≤ b := Nat.le_trans B20.out.size hbb
      have hb3l := hB.lt.2
      clear hB hb3 hg hbb
      go_wp2_with fail
      refine (RNew_calls 500 w3).mono ?_
      rintro e w4 ⟨x, rfl, hx, ⟨Ax, cx, hxb⟩, hb4⟩
      rw [if_neg (by omega)] at hxb
      have B4 := Aside0.mk (B3.out.trans (hb4.mono B3.out.size))
      have HB4 := Aside0.mk (Bl.kept HB3.out hb4)
      have HX4 := Aside0.mk hxb
      have hx4l := blk_lt hxb
      have hb4s := hb4.size
      clear hxb hb4
      go_wp2_with fail
      refine (RNew_calls 500 w4).mono ?_
      rintro e w5 ⟨y, rfl, hy, ⟨Ay, cy, hyb⟩, hb5⟩
      rw [if_neg (by omega)] at hyb
      have B5 := Aside0.mk (B4.out.trans (hb5.mono B4.out.size))
      have HB5 := Aside0.mk (Bl.kept HB4.out hb5)
      have hy5l := blk_lt hyb
      have hb5s := hb5.size
      have hS : ∀ s ∈ [b, x, y], s < w5.heap.size := by
        intro s hs
        simp only [List.mem_cons, List.not_mem_nil, or_false] at hs
        rcases hs with rfl | rfl | rfl <;> omega
      have RX5 := Aside0.mk (Rf.start (S := [b, x, y]) (blk_below HX4.out hb5) (by simp) hS)
      have RY5 := Aside0.mk (Rf.start (S := [b, x, y]) hyb (by simp) hS)
      have h3w := B3.out.size
      have hxw : w.heap.size ≤ x := by omega
      have hyw : w.heap.size ≤ y := by omega
      have hxbn : x ≠ b := by omega
      have hybn : y ≠ b := by omega
      have hyx : y ≠ x := by omega
      clear hyb hb5 hS HB3 HB4 HX4 B3 B4 h3w hb3l hx4l hb4s hy5l hb5s hx hy
      have hxb := hxbn
      have hyb := hybn
      clear hxbn hybn
      go_wp2_with fail
      go_loopg [26] l.length (fun kq v26 w' => ∃ (i : Nat) (L : List Ent), v26 = .int .i64 i ∧ i ≤ l.length ∧ L.length ≤ i ∧ Aside0 (kq + i = l.length) ∧ Aside0 (Bl w' g b 500 L) ∧ Aside0 (Rf [b, x, y] w' x 500 L) ∧ Aside0 (Rf [b, x, y] w' y 500 L) ∧ Aside0 (Below w.heap.size w w'))
      case atStart => exact ⟨0, [], rfl, Nat.zero_le _, Nat.le_refl _, ⟨rfl⟩, HB5, RX5, RY5, B5⟩
      case round =>
        obtain ⟨i, L, rfl, hi, hLi, HK, HBL, HRX, HRY, HB⟩ := hrel
        clear HB5 RX5 RY5 B5
        by_cases hlt : i < l.length
        · have hci : (i : Int) < (l.length : Int) := by omega
          obtain ⟨ad, A9, c9, e9, hw0, hw1, hw2, hw3, hl9, hi9⟩ := at_T29 HC2.out i (Int.natCast_nonneg _) hci
          cases e9
          rw [Int.toNat_natCast] at hw0 hw1 hw2 hw3
          have hx0 := hp_cell (Nat.le_refl _) HB.out hw0
          have hx1 := hp_cell (Nat.le_refl _) HB.out hw1
          have hx2 := hp_cell (Nat.le_refl _) HB.out hw2
          have hx3 := hp_cell (Nat.le_refl _) HB.out hw3
          clear hw0 hw1 hw2 hw3
          generalize rd_T29 l i = a at hx0 hx1 hx2 hx3 hl9 hi9
          have HI9 := Aside0.mk hi9
          have HL9 := Aside0.mk hl9
          clear hi9 hl9
          go_wp2_with fail
          have P1 := Aside0.mk (blk_new wr (.cells #[.int .i64 a.f0, .int .i64 a.f1, .string a.f2, .slice A9 a.f3.length c9] 29))
          have bw1 := Aside0.mk (below_alloc (Below.refl wr.heap.size wr) (.cells #[.int .i64 a.f0, .int .i64 a.f1, .string a.f2, .slice A9 a.f3.length c9] 29))
          generalize wr.alloc (.cells #[.int .i64 a.f0, .int .i64 a.f1, .string a.f2, .slice A9 a.f3.length c9] 29) = W1 at P1 bw1 ⊢
          have B1 := Aside0.mk (HB.out.trans (bw1.out.mono HB.out.size))
          clear hx0 hx1 hx2 hx3
          refine (Do_calls g b 500 L a.f0 a.f1 a.f2 A9 c9 a.f3 W1 (Bl.kept HBL.out bw1.out) (by omega) (by omega) HL9.out (Kd.C_below HI9.out B1.out)).mono ?_
          rintro e w6 ⟨vb, vn, nm, code, bd, ns, L', rfl, hvb, hvn, hB6, hg6, hD⟩
          obtain ⟨A1, c1, rfl, _, _⟩ := Kd.R_reads hvb
          obtain ⟨A2, c2, rfl, _, _⟩ := Kd.R_reads hvn
          have hlen := hD.len
          have HD := Aside0.mk hD
          have HB6 := Aside0.mk hB6
          have hsm := Aside0.mk (Bl.small (Bl.kept HBL.out bw1.out))
          obtain ⟨mes, mcl, hmb⟩ := own_blk (Bl.kept HBL.out bw1.out).map
          have hbm : wr.heap.size ≠ b := by have := HBL.out.lt.2; omega
          have P6 := Aside0.mk (blk_grown P1.out hg6 (by simpa using hbm))
          have B6 := Aside0.mk (B1.out.grown hg6 B1.out.size (fun j hj => by cases hj; exact hbw))
          have RX6 := Aside0.mk ((HRX.out.kept bw1.out).grown hg6 (by simp) hxb)
          have RY6 := Aside0.mk ((HRY.out.kept bw1.out).grown hg6 (by simp) hyb)
          clear hvb hvn hB6 hg6 hD hmb
          have a0 : (w6).cell? ⟨wr.heap.size, 0, none⟩ = some (.int .i64 a.f0) := (blk_cell (P6.out) 0).trans rfl
          have a1 : (w6).cell? ⟨wr.heap.size, 1, none⟩ = some (.int .i64 a.f1) := (blk_cell (P6.out) 1).trans rfl
          have a2 : (w6).cell? ⟨wr.heap.size, 2, none⟩ = some (.string a.f2) := (blk_cell (P6.out) 2).trans rfl
          have a3 : (w6).cell? ⟨wr.heap.size, 3, none⟩ = some (.slice A9 a.f3.length c9) := (blk_cell (P6.out) 3).trans rfl
          generalize bd.length = nb
          generalize ns.length = nn
          go_wp2_with fail
          refine (RDo_calls [b, x, y] x 500 L a.f0 a.f1 a.f2 A9 c9 a.f3 w6 RX6.out (by omega) hsm.out HL9.out (Kd.C_below HI9.out B6.out) HD.out).mono ?_
          rintro e w7 ⟨vb, vn, rfl, hvb, hvn, hR7, hg7⟩
          obtain ⟨A71, c71, rfl, _, _⟩ := Kd.R_reads hvb
          obtain ⟨A72, c72, rfl, _, _⟩ := Kd.R_reads hvn
          clear hvb hvn
          obtain ⟨_, _, hxx, _⟩ := RX6.out.ex
          have HB7 := Aside0.mk (Bl.farX HB6.out hxx hg7)
          have RX7 := Aside0.mk hR7
          have RY7 := Aside0.mk (RY6.out.grown hg7 (by simp) hyx)
          have P7 := Aside0.mk (blk_grown P6.out hg7 (by have := HRX.out.xlt; intro e; injection e; omega))
          have B7 := Aside0.mk (B6.out.grown hg7 B6.out.size (fun j hj => by cases hj; exact hxw))
          clear hR7 hg7 hxx a0 a1 a2 a3
          have a0 : (w7).cell? ⟨wr.heap.size, 0, none⟩ = some (.int .i64 a.f0) := (blk_cell (P7.out) 0).trans rfl
          have a1 : (w7).cell? ⟨wr.heap.size, 1, none⟩ = some (.int .i64 a.f1) := (blk_cell (P7.out) 1).trans rfl
          have a2 : (w7).cell? ⟨wr.heap.size, 2, none⟩ = some (.string a.f2) := (blk_cell (P7.out) 2).trans rfl
          have a3 : (w7).cell? ⟨wr.heap.size, 3, none⟩ = some (.slice A9 a.f3.length c9) := (blk_cell (P7.out) 3).trans rfl
          generalize bd.length = nb7
          generalize ns.length = nn7
          go_wp2_with fail
          refine (RDo_calls [b, x, y] y 500 L a.f0 a.f1 a.f2 A9 c9 a.f3 w7 RY7.out (by omega) hsm.out HL9.out (Kd.C_below HI9.out B7.out) HD.out).mono ?_
          rintro e w8 ⟨vb, vn, rfl, hvb, hvn, hR8, hg8⟩
          obtain ⟨A81, c81, rfl, _, _⟩ := Kd.R_reads hvb
          obtain ⟨A82, c82, rfl, _, _⟩ := Kd.R_reads hvn
          clear hvb hvn
          obtain ⟨_, _, hyy, _⟩ := RY7.out.ex
          have HB8 := Aside0.mk (Bl.farX HB7.out hyy hg8)
          have RX8 := Aside0.mk (RX7.out.grown hg8 (by simp) (Ne.symm hyx))
          have RY8 := Aside0.mk hR8
          have B8 := Aside0.mk (B7.out.grown hg8 B7.out.size (fun j hj => by cases hj; exact hyw))
          clear hR8 hg8 hyy a0 a1 a2 a3
          generalize bd.length = nb8
          generalize ns.length = nn8
          go_wp2_with fail
          go_roundg (l.length - (i + 1))
          case measure => have := HK.out; omega
          case rel => exact ⟨i + 1, L', by go_num, by omega, by omega, ⟨by omega⟩, HB8, RX8, RY8, B8⟩
        · have hil : i = l.length := by omega
          subst hil
          go_wp2_with fail
          refine (Copy_calls g b 500 L wr HBL.out).mono ?_
          rintro e w9 ⟨g2, b2, rfl, hg2, hb2, hB9, hb9⟩
          have HB9 := Aside0.mk hB9
          have HBL9 := Aside0.mk (Bl.kept HBL.out hb9)
          have hS2 : ∀ s ∈ [b2, b, x, y], wr.heap.size ≤ s ∨ s ∈ [b, x, y] := by
            intro s hs
            rcases List.mem_cons.1 hs with rfl | hs
            · exact .inl hb2
            · exact .inr hs
          have hS3 : ∀ s ∈ [b2, b, x, y], s < w9.heap.size := by
            intro s hs
            rcases List.mem_cons.1 hs with rfl | hs
            · exact hB9.lt.2
            · exact Nat.lt_of_lt_of_le (HRX.out.lt s hs) hb9.size
          have RX9 := Aside0.mk ((HRX.out.kept hb9).wider hS2 (by simp) hS3 HRX.out hb9 rfl)
          have RY9 := Aside0.mk ((HRY.out.kept hb9).wider hS2 (by simp) hS3 HRY.out hb9 rfl)
          have B9 := Aside0.mk (HB.out.trans (hb9.mono HB.out.size))
          have hb2w : w.heap.size ≤ b2 := Nat.le_trans HB.out.size hb2
          have hb2b : b2 ≠ b := by have := HBL.out.lt.2; omega
          have hxb2 : x ≠ b2 := by have := HRX.out.xlt; omega
          have hyb2 : y ≠ b2 := by have := HRY.out.xlt; omega
          clear hB9 hb9 hS2 hS3 HB HRX HRY HBL hg2 hb2
          have hLl : L.length ≤ 60 := by omega
          go_wp2_with fail
          go_loopg [44] m.length (fun kq v44 w' => ∃ (i : Nat) (M : List Ent), v44 = .int .i64 i ∧ i ≤ m.length ∧ M.length ≤ L.length + i ∧ Aside0 (kq + i = m.length) ∧ Aside0 (Bl w' g2 b2 500 M) ∧ Aside0 (Bl w' g b 500 L) ∧ Aside0 (Rf [b2, b, x, y] w' x 500 L) ∧ Aside0 (Rf [b2, b, x, y] w' y 500 M) ∧ Aside0 (Below w.heap.size w w'))
          case atStart => exact ⟨0, L, rfl, Nat.zero_le _, Nat.le_refl _, ⟨rfl⟩, HB9, HBL9, RX9, RY9, B9⟩
          case round =>
            obtain ⟨i, M, rfl, hi2, hMi, HK2, HBM, HBL, HRX, HRY, HB⟩ := hrel
            clear HB9 HBL9 RX9 RY9 B9
            by_cases hlt : i < m.length
            · have hci : (i : Int) < (m.length : Int) := by omega
              obtain ⟨ad, A9, c9, e9, hw0, hw1, hw2, hw3, hl9, hi9⟩ := at_T29 HC3.out i (Int.natCast_nonneg _) hci
              cases e9
              rw [Int.toNat_natCast] at hw0 hw1 hw2 hw3
              have hx0 := hp_cell (Nat.le_refl _) HB.out hw0
              have hx1 := hp_cell (Nat.le_refl _) HB.out hw1
              have hx2 := hp_cell (Nat.le_refl _) HB.out hw2
              have hx3 := hp_cell (Nat.le_refl _) HB.out hw3
              clear hw0 hw1 hw2 hw3
              generalize rd_T29 m i = a at hx0 hx1 hx2 hx3 hl9 hi9
              have HI9 := Aside0.mk hi9
              have HL9 := Aside0.mk hl9
              clear hi9 hl9
              go_wp2_with fail
              have P1 := Aside0.mk (blk_new wr (.cells #[.int .i64 a.f0, .int .i64 a.f1, .string a.f2, .slice A9 a.f3.length c9] 29))
              have bw1 := Aside0.mk (below_alloc (Below.refl wr.heap.size wr) (.cells #[.int .i64 a.f0, .int .i64 a.f1, .string a.f2, .slice A9 a.f3.length c9] 29))
              generalize wr.alloc (.cells #[.int .i64 a.f0, .int .i64 a.f1, .string a.f2, .slice A9 a.f3.length c9] 29) = W1 at P1 bw1 ⊢
              have B1 := Aside0.mk (HB.out.trans (bw1.out.mono HB.out.size))
              clear hx0 hx1 hx2 hx3
              refine (Do_calls g2 b2 500 M a.f0 a.f1 a.f2 A9 c9 a.f3 W1 (Bl.kept HBM.out bw1.out) (by omega) (by omega) HL9.out (Kd.C_below HI9.out B1.out)).mono ?_
              rintro e w6 ⟨vb, vn, nm, code, bd, ns, L', rfl, hvb, hvn, hB6, hg6, hD⟩
              obtain ⟨A1, c1, rfl, _, _⟩ := Kd.R_reads hvb
              obtain ⟨A2, c2, rfl, _, _⟩ := Kd.R_reads hvn
              have hlen := hD.len
              have HD := Aside0.mk hD
              have HB6 := Aside0.mk hB6
              have hsm := Aside0.mk (Bl.small (Bl.kept HBM.out bw1.out))
              obtain ⟨mes, mcl, hmb⟩ := own_blk (Bl.kept HBM.out bw1.out).map
              have hbm : wr.heap.size ≠ b2 := by have := HBM.out.lt.2; omega
              have P6 := Aside0.mk (blk_grown P1.out hg6 (by simpa using hbm))
              have B6 := Aside0.mk (B1.out.grown hg6 B1.out.size (fun j hj => by cases hj; exact hb2w))
              have RX6 := Aside0.mk ((HRX.out.kept bw1.out).grown hg6 (by simp) hxb2)
              have RY6 := Aside0.mk ((HRY.out.kept bw1.out).grown hg6 (by simp) hyb2)
              have HBL6 := Aside0.mk ((Bl.kept HBL.out bw1.out).far hmb hg6 (Ne.symm hb2b))
              clear hvb hvn hB6 hg6 hD hmb
              have a0 : (w6).cell? ⟨wr.heap.size, 0, none⟩ = some (.int .i64 a.f0) := (blk_cell (P6.out) 0).trans rfl
              have a1 : (w6).cell? ⟨wr.heap.size, 1, none⟩ = some (.int .i64 a.f1) := (blk_cell (P6.out) 1).trans rfl
              have a2 : (w6).cell? ⟨wr.heap.size, 2, none⟩ = some (.string a.f2) := (blk_cell (P6.out) 2).trans rfl
              have a3 : (w6).cell? ⟨wr.heap.size, 3, none⟩ = some (.slice A9 a.f3.length c9) := (blk_cell (P6.out) 3).trans rfl
              generalize bd.length = nb
              generalize ns.length = nn
              go_wp2_with fail
              refine (RDo_calls [b2, b, x, y] y 500 M a.f0 a.f1 a.f2 A9 c9 a.f3 w6 RY6.out (by omega) hsm.out HL9.out (Kd.C_below HI9.out B6.out) HD.out).mono ?_
              rintro e w8 ⟨vb, vn, rfl, hvb, hvn, hR8, hg8⟩
              obtain ⟨A81, c81, rfl, _, _⟩ := Kd.R_reads hvb
              obtain ⟨A82, c82, rfl, _, _⟩ := Kd.R_reads hvn
              clear hvb hvn
              obtain ⟨_, _, hyy, _⟩ := RY6.out.ex
              have HBM8 := Aside0.mk (Bl.farX HB6.out hyy hg8)
              have HBL8 := Aside0.mk (Bl.farX HBL6.out hyy hg8)
              have RX8 := Aside0.mk (RX6.out.grown hg8 (by simp) (Ne.symm hyx))
              have RY8 := Aside0.mk hR8
              have B8 := Aside0.mk (B6.out.grown hg8 B6.out.size (fun j hj => by cases hj; exact hyw))
              clear hR8 hg8 hyy a0 a1 a2 a3
              generalize bd.length = nb8
              generalize ns.length = nn8
              go_wp2_with fail
              go_roundg (m.length - (i + 1))
              case measure => have := HK2.out; omega
              case rel => exact ⟨i + 1, L', by go_num, by omega, by omega, ⟨by omega⟩, HBM8, HBL8, RX8, RY8, B8⟩
            · have hil : i = m.length := by omega
              subst hil
              go_wp2_with fail
              have hsL := sum_le L HBL.out.small
              have hsM := sum_le M HBM.out.small
              have hqL : sumE L ≤ 100000000000 := by omega
              have hqM : sumE M ≤ 100000000000 := by omega
              obtain ⟨nL, hnL⟩ : ∃ nl, nl = L.map (·.1) := ⟨_, rfl⟩
              obtain ⟨nM, hnM⟩ : ∃ nl, nl = M.map (·.1) := ⟨_, rfl⟩
              have hlL : nL.length = L.length := by rw [hnL, List.length_map]
              have hlM : nM.length = M.length := by rw [hnM, List.length_map]
              have hlL2 : nL.length ≤ 1000 := by omega
              have hlM2 : nM.length ≤ 1000 := by omega
              have HL := Aside0.mk hnL
              have HM := Aside0.mk hnM
              clear hnL hnM hlL hlM
              refine (Size_calls g b 500 L wr HBL.out (by omega)).mono ?_
              rintro e w10 ⟨rfl, hbw10⟩
              have Bw10 := Aside0.mk (HB.out.trans (hbw10.mono HB.out.size))
              have HBLw10 := Aside0.mk (Bl.kept HBL.out hbw10)
              have HBMw10 := Aside0.mk (Bl.kept HBM.out hbw10)
              have HRXw10 := Aside0.mk (Rf.kept HRX.out hbw10)
              have HRYw10 := Aside0.mk (Rf.kept HRY.out hbw10)
              clear hbw10 HBL HBM HRX HRY HB
              go_wp2_with fail
              refine (RSize_calls [b2, b, x, y] x 500 L w10 HRXw10.out (by omega) hqL).mono ?_
              rintro e w11 ⟨rfl, hbw11⟩
              have Bw11 := Aside0.mk (Bw10.out.trans (hbw11.mono Bw10.out.size))
              have HBLw11 := Aside0.mk (Bl.kept HBLw10.out hbw11)
              have HBMw11 := Aside0.mk (Bl.kept HBMw10.out hbw11)
              have HRXw11 := Aside0.mk (Rf.kept HRXw10.out hbw11)
              have HRYw11 := Aside0.mk (Rf.kept HRYw10.out hbw11)
              clear hbw11 HBLw10 HBMw10 HRXw10 HRYw10 Bw10
              go_wp2_with fail
              refine (Names_R g b 500 L nL HL.out w11 HBLw11.out (by omega)).mono ?_
              rintro e w12 ⟨v, rfl, hrw12, hbw12⟩
              have Bw12 := Aside0.mk (Bw11.out.trans (hbw12.mono Bw11.out.size))
              have HBLw12 := Aside0.mk (Bl.kept HBLw11.out hbw12)
              have HBMw12 := Aside0.mk (Bl.kept HBMw11.out hbw12)
              have HRXw12 := Aside0.mk (Rf.kept HRXw11.out hbw12)
              have HRYw12 := Aside0.mk (Rf.kept HRYw11.out hbw12)
              obtain ⟨ApL, cpL, rfl, hcpL, hCpL⟩ := Kd.R_reads hrw12
              have CPL := Aside0.mk hCpL
              have LPL := Aside0.mk hcpL
              clear hrw12 hCpL hcpL
              clear hbw12 HBLw11 HBMw11 HRXw11 HRYw11 Bw11
              go_wp2_with fail
              refine (RNames_R [b2, b, x, y] x 500 L nL HL.out w12 HRXw12.out (by omega)).mono ?_
              rintro e w13 ⟨v, rfl, hrw13, hbw13⟩
              have Bw13 := Aside0.mk (Bw12.out.trans (hbw13.mono Bw12.out.size))
              have HBLw13 := Aside0.mk (Bl.kept HBLw12.out hbw13)
              have HBMw13 := Aside0.mk (Bl.kept HBMw12.out hbw13)
              have HRXw13 := Aside0.mk (Rf.kept HRXw12.out hbw13)
              have HRYw13 := Aside0.mk (Rf.kept HRYw12.out hbw13)
              have CPLw13 := Aside0.mk (Kd.C_below CPL.out hbw13)
              obtain ⟨AqL, cqL, rfl, hcqL, hCqL⟩ := Kd.R_reads hrw13
              have CQL := Aside0.mk hCqL
              have LQL := Aside0.mk hcqL
              clear hrw13 hCqL hcqL
              clear hbw13 HBLw12 HBMw12 HRXw12 HRYw12 Bw12
              go_wp2_with fail
              refine (scriniumref16_SameNames.calls (nL.length + 1) ApL cpL nL AqL cqL nL true w13 CPLw13.out LPL.out CQL.out LQL.out (sameN_is _ (by omega))).mono ?_
              rintro e w14 ⟨rfl, hd⟩
              have hbw14 := Drawn0.below hd
              clear hd
              have Bw14 := Aside0.mk (Bw13.out.trans (hbw14.mono Bw13.out.size))
              have HBLw14 := Aside0.mk (Bl.kept HBLw13.out hbw14)
              have HBMw14 := Aside0.mk (Bl.kept HBMw13.out hbw14)
              have HRXw14 := Aside0.mk (Rf.kept HRXw13.out hbw14)
              have HRYw14 := Aside0.mk (Rf.kept HRYw13.out hbw14)
              have CPLw13w14 := Aside0.mk (Kd.C_below CPLw13.out hbw14)
              clear hbw14 HBLw13 HBMw13 HRXw13 HRYw13 Bw13
              go_wp2_with fail
              refine (Size_calls g2 b2 500 M w14 HBMw14.out (by omega)).mono ?_
              rintro e w15 ⟨rfl, hbw15⟩
              have Bw15 := Aside0.mk (Bw14.out.trans (hbw15.mono Bw14.out.size))
              have HBLw15 := Aside0.mk (Bl.kept HBLw14.out hbw15)
              have HBMw15 := Aside0.mk (Bl.kept HBMw14.out hbw15)
              have HRXw15 := Aside0.mk (Rf.kept HRXw14.out hbw15)
              have HRYw15 := Aside0.mk (Rf.kept HRYw14.out hbw15)
              clear hbw15 HBLw14 HBMw14 HRXw14 HRYw14 Bw14
              go_wp2_with fail
              refine (RSize_calls [b2, b, x, y] y 500 M w15 HRYw15.out (by omega) hqM).mono ?_
              rintro e w16 ⟨rfl, hbw16⟩
              have Bw16 := Aside0.mk (Bw15.out.trans (hbw16.mono Bw15.out.size))
              have HBLw16 := Aside0.mk (Bl.kept HBLw15.out hbw16)
              have HBMw16 := Aside0.mk (Bl.kept HBMw15.out hbw16)
              have HRXw16 := Aside0.mk (Rf.kept HRXw15.out hbw16)
              have HRYw16 := Aside0.mk (Rf.kept HRYw15.out hbw16)
              clear hbw16 HBLw15 HBMw15 HRXw15 HRYw15 Bw15
              go_wp2_with fail
              refine (Names_R g2 b2 500 M nM HM.out w16 HBMw16.out (by omega)).mono ?_
              rintro e w17 ⟨v, rfl, hrw17, hbw17⟩
              have Bw17 := Aside0.mk (Bw16.out.trans (hbw17.mono Bw16.out.size))
              have HBLw17 := Aside0.mk (Bl.kept HBLw16.out hbw17)
              have HBMw17 := Aside0.mk (Bl.kept HBMw16.out hbw17)
              have HRXw17 := Aside0.mk (Rf.kept HRXw16.out hbw17)
              have HRYw17 := Aside0.mk (Rf.kept HRYw16.out hbw17)
              obtain ⟨ApM, cpM, rfl, hcpM, hCpM⟩ := Kd.R_reads hrw17
              have CPM := Aside0.mk hCpM
              have LPM := Aside0.mk hcpM
              clear hrw17 hCpM hcpM
              clear hbw17 HBLw16 HBMw16 HRXw16 HRYw16 Bw16
              go_wp2_with fail
              refine (RNames_R [b2, b, x, y] y 500 M nM HM.out w17 HRYw17.out (by omega)).mono ?_
              rintro e w18 ⟨v, rfl, hrw18, hbw18⟩
              have Bw18 := Aside0.mk (Bw17.out.trans (hbw18.mono Bw17.out.size))
              have HBLw18 := Aside0.mk (Bl.kept HBLw17.out hbw18)
              have HBMw18 := Aside0.mk (Bl.kept HBMw17.out hbw18)
              have HRXw18 := Aside0.mk (Rf.kept HRXw17.out hbw18)
              have HRYw18 := Aside0.mk (Rf.kept HRYw17.out hbw18)
              have CPMw18 := Aside0.mk (Kd.C_below CPM.out hbw18)
              obtain ⟨AqM, cqM, rfl, hcqM, hCqM⟩ := Kd.R_reads hrw18
              have CQM := Aside0.mk hCqM
              have LQM := Aside0.mk hcqM
              clear hrw18 hCqM hcqM
              clear hbw18 HBLw17 HBMw17 HRXw17 HRYw17 Bw17
              go_wp2_with fail
              refine (scriniumref16_SameNames.calls (nM.length + 1) ApM cpM nM AqM cqM nM true w18 CPMw18.out LPM.out CQM.out LQM.out (sameN_is _ (by omega))).mono ?_
              rintro e w19 ⟨rfl, hd⟩
              have hbw19 := Drawn0.below hd
              clear hd
              have Bw19 := Aside0.mk (Bw18.out.trans (hbw19.mono Bw18.out.size))
              have HBLw19 := Aside0.mk (Bl.kept HBLw18.out hbw19)
              have HBMw19 := Aside0.mk (Bl.kept HBMw18.out hbw19)
              have HRXw19 := Aside0.mk (Rf.kept HRXw18.out hbw19)
              have HRYw19 := Aside0.mk (Rf.kept HRYw18.out hbw19)
              have CPMw18w19 := Aside0.mk (Kd.C_below CPMw18.out hbw19)
              clear hbw19 HBLw18 HBMw18 HRXw18 HRYw18 Bw18
              go_wp2_with fail
              go_ret
              exact ⟨rfl, Bw19.out⟩

theorem BlobCopy_row (A : Option Addr) (len cap : Nat) (l : List S29) {w : World} {P : S29 → Prop} (hl : l.length = len) (hC : Kd.C k29 w A len l) (hc : len ≤ cap) (hm : len ≤ maxLen) (hw : ∀ x ∈ l, P x)
    (Am : Option Addr) (lenm capm : Nat) (m : List S29) {Pm : S29 → Prop} (hlm : m.length = lenm) (hCm : Kd.C k29 w Am lenm m) (hcm : lenm ≤ capm) (hmm : lenm ≤ maxLen) (hwm : ∀ x ∈ m, Pm x) :
    Calls Try.prog 5 #[.slice A len cap, .slice Am lenm capm] w fun e w' => e = .returned (.bool true) ∧ Below w.heap.size w w' := by
  subst hl hlm
  exact BlobCopy_walk A cap l Am capm m w hc hC hcm hCm
end Go.Proofs.Ytahiadghodhkhaa.Bl
