import Derived.Test.YtpkfeepepbchlaaGLkG
namespace Go.Proofs.Ytpkfeepepbchlaa.Bl
open Go.RowKit Go.Maps Go.Proofs.YtpkfeepepbchlaaW.PrintWords Go.Proofs.YtpkfeepepbchlaaW.PrintLast Go.Proofs.YtpkfeepepbchlaaW.PrintMore Go.Proofs.Ytpkfeepepbchlaa.PK
set_option linter.unusedVariables false
set_option linter.unusedSimpArgs false
set_option maxRecDepth 20000 in
set_option maxHeartbeats 16000000 in
theorem LinkOwn_walk (A1 : Option Addr) (len1 c1 : Nat) (l : List S32) {w : World} (hl1 : l.length = len1) (hC1 : Kd.C k32 w A1 len1 l) (hc1 : len1 ≤ c1) (hm1 : len1 ≤ maxLen) (hw1 : ∀ x ∈ l, ActWf x) :
    Calls Try.prog 6 #[.slice A1 len1 c1] w fun e w' => e = .returned (.bool true) ∧ Below w.heap.size w w' := by
  subst hl1
  have HL := Aside0.mk hC1
  have HWL := Aside0.mk hw1
  clear hC1 hw1
  obtain ⟨lr, hlr, hlr2⟩ := long_is 999 (by omega) l []
  go_enter Try.func6, Try.ntmps6
  go_wp2_with fail
  refine (wakes_calls w).mono ?_
  rintro e w1 ⟨rfl, hb1⟩
  have B1 := Aside0.mk hb1
  clear hb1
  go_wp2_with fail
  refine (scriniumlaw20_long.calls (999 + 1) A1 c1 l none 0 [] lr w1 (Kd.C_below HL.out B1.out) hc1 (Kd.C_nil _ _) (Nat.le_refl _) hlr).mono ?_
  rintro e w2 ⟨rfl, hd2⟩
  have B2 := Aside0.mk (B1.out.trans (Drawn0.below hd2 |>.mono B1.out.size))
  clear hd2 hlr B1
  cases lr with
  | true =>
    go_wp2_with fail
    go_ret
    exact ⟨rfl, B2.out⟩
  | false =>
    obtain ⟨hl40, _, _⟩ := hlr2 rfl
    clear hlr2
    go_wp2_with fail
    refine (New_net 3 (by omega) 1000 (by omega) none 0 [] w2 (Kd.C_nil _ _) (Nat.le_refl _) (by simp) (by simp)).mono ?_
    rintro e w3 ⟨n1, g1, k1, ps0, rfl, hN1, hpl1, hps1, hnew1, hb3⟩
    have B3 := Aside0.mk (B2.out.trans (hb3.mono B2.out.size))
    have HN1 := Aside0.mk hN1
    have HP1 := Aside0.mk hps1
    have HS1 := Aside0.mk (show ∀ s ∈ n1 :: g1 :: ps0.map (·.b), w.heap.size ≤ s from fun s hs => Nat.le_trans B2.out.size (hnew1 s hs))
    clear hN1 hps1 hnew1 hb3
    go_wp2_with fail
    refine (New_net 3 (by omega) 1000 (by omega) none 0 [] w3 (Kd.C_nil _ _) (Nat.le_refl _) (by simp) (by simp)).mono ?_
    rintro e w4 ⟨n2, g2, k2, rs0, rfl, hN2, hpl2, hps2, hnew2, hb4⟩
    have B4 := Aside0.mk (B3.out.trans (hb4.mono B3.out.size))
    have N1 := Aside0.mk (HN1.out.kept hb4)
    have HD := Aside0.mk (show ∀ k ∈ n1 :: g1 :: ps0.map (·.b), k ∉ n2 :: g2 :: rs0.map (·.b) from fun k h1 h2 => by have := HN1.out.lt k h1; have := hnew2 k h2; omega)
    have HS2 := Aside0.mk (show ∀ s ∈ n2 :: g2 :: rs0.map (·.b), w.heap.size ≤ s from fun s hs => Nat.le_trans B3.out.size (hnew2 s hs))
    have TS1 := ts_new n1 g1 ps0
    have TS2 := ts_new n2 g2 rs0
    have TY1 := Aside0.mk (show ∀ k ∈ n1 :: g1 :: ps0.map (·.b), k = n1 ∨ k = g1 ∨ ∃ p ∈ ps0, p.b = k from fun k hk => by simpa only [List.mem_cons, List.mem_map] using hk)
    have M2 := Aside0.mk (show Mm (n2 :: g2 :: rs0.map (·.b)) w4 n2 g2 k2 0 rs0 0 0 0 from ⟨hN2, TS2, fun k hk => by simpa only [List.mem_cons, List.mem_map] using hk, hpl2, fun p hp => by
      obtain ⟨h1, h2, _⟩ := hps2 p hp
      rw [h1]
      exact ⟨h2, Nat.le_refl _, fun y hy => by cases hy⟩, by decide, by decide, by decide⟩)
    have HEQ := Aside0.mk (show ∀ r ∈ rs0, r.L = [] from fun r hr => (hps2 r hr).1)
    generalize n1 :: g1 :: ps0.map (·.b) = S1 at N1 HD TS1 HS1 TY1
    generalize n2 :: g2 :: rs0.map (·.b) = S2 at HD HS2 M2
    clear hN2 hps2 hnew2 hb4 HN1 B2 B3 TS2
    go_wp2_with fail
    have KB := blk_new w4 (.cells #[.int .i64 1, .slice none 0 0] 43)
    have bB := below_alloc (Below.refl w4.heap.size w4) (.cells #[.int .i64 1, .slice none 0 0] 43)
    have N5 := Aside0.mk (N1.out.kept bB)
    have M5 := Aside0.mk (M2.out.kept bB)
    have B5 := Aside0.mk (B4.out.trans (bB.mono B4.out.size))
    generalize hbf : w4.heap.size = bf at KB ⊢
    generalize w4.alloc (.cells #[.int .i64 1, .slice none 0 0] 43) = w5 at KB N5 M5 B5 ⊢
    clear bB hbf N1 M2 B4
    have hp1 : ps0[1]? = some (ps0[1]'(by omega)) := List.getElem?_eq_getElem (by omega)
    generalize ps0[1]'(by omega) = p1 at hp1
    have hps := HP1.out
    refine (Own_one (base := w.heap.size) N5.out TS1 hp1 (fun i r hr _ => (hps r (List.mem_of_getElem? hr)).2.1) B5.out.size bf KB).mono ?_
    rintro e w6 ⟨u, rfl, hM6, hN6, hT6⟩
    have hlt1 := (List.getElem?_eq_some_iff.1 hp1).1
    have hnn : Nn w.heap.size S1 w6 n1 g1 k1 0 (ps0.set 1 { p1 with o := u }) 0 0 0 := ⟨hN6, TS1.set hp1 _ rfl, ty_set TY1.out hp1 rfl, by rw [List.length_set]; exact hpl1, ⟨{ p1 with o := u }, List.getElem?_set_self hlt1, hM6, (hps p1 (List.mem_of_getElem? hp1)).1, (hps p1 (List.mem_of_getElem? hp1)).2.2.1⟩, fun i p hi hne => by
      rcases set_at hp1 hi with ⟨h, _⟩ | ⟨_, hi⟩
      · exact absurd h hne
      · obtain ⟨h1, h2, _⟩ := hps p (List.mem_of_getElem? hi)
        rw [h1]
        exact ⟨h2, Nat.le_refl _, fun y hy => by cases hy⟩, by decide, by decide, by decide⟩
    have HNN := Aside0.mk hnn
    have HMM := Aside0.mk (M5.out.aside (base := w.heap.size) (Tf.of hT6) (fun k h2 h1 => HD.out k h1 h2) (fun k hk cells t hc => N5.out.types (TY1.out k hk) cells t hc))
    have HB := Aside0.mk (Tn.below B5.out hT6 B5.out.size HS1.out)
    have HSP := Aside0.mk (show SameP (ps0.set 1 { p1 with o := u }) rs0 from fun i p r hi hp hr => by
      rcases set_at hp1 hp with ⟨h, _⟩ | ⟨_, hp⟩
      · exact absurd h hi
      · rw [(hps p (List.mem_of_getElem? hp)).1, HEQ.out r (List.mem_of_getElem? hr)])
    clear hM6 hN6 hT6 hnn N5 M5 B5 TS1 TY1 HP1 hps hp1 hlt1 HEQ KB
    generalize ps0.set 1 { p1 with o := u } = ps at HNN HSP
    clear hpl1
    go_wp2_with fail
    go_loopg [25] l.length (fun kq v25 w' => ∃ (i : Nat) (ps rs : List Pr) (x1 s1 t1 x2 s2 t2 : Int), v25 = .int .i64 i ∧ i ≤ l.length ∧ Aside0 (kq + i = l.length) ∧ Aside0 (Nn w.heap.size S1 w' n1 g1 k1 (20 * i) ps x1 s1 t1) ∧ Aside0 (Mm S2 w' n2 g2 k2 (20 * i) rs x2 s2 t2) ∧ Aside0 (SameP ps rs) ∧ Aside0 (Below w.heap.size w w'))
    case atStart => exact ⟨0, ps, rs0, 0, 0, 0, 0, 0, 0, rfl, Nat.zero_le _, ⟨rfl⟩, HNN, HMM, HSP, HB⟩
    case round =>
      clear HNN HMM HSP HB
      obtain ⟨i, ps, rs, x1, s1, t1, x2, s2, t2, rfl, hi, HK, HN, HM, HE, HB⟩ := hrel
      by_cases hlt : i < l.length
      · have hci : (i : Int) < (l.length : Int) := by omega
        obtain ⟨ad, A5, c5, A6, c6, e9, x0, xx1, xx2, x3, x4, x5, x6, hl5, hC5, hl6, hC6⟩ := at_T32 HL.out i (Int.natCast_nonneg _) hci
        cases e9
        rw [rd_act l i hlt] at x0 xx1 xx2 x3 x4 x5 x6 hl5 hC5 hl6 hC6
        have hwa := HWL.out l[i] (List.getElem_mem hlt)
        have htb := Aside0.mk (bytes_wf hwa.2.2.1.2.2.2.2)
        generalize l[i] = a at x0 xx1 xx2 x3 x4 x5 x6 hl5 hC5 hl6 hC6 htb
        rw [Int.toNat_natCast] at x0 xx1 xx2 x3 x4 x5 x6
        have x0 := Kd.cell_heap (fun k hk => HB.out.block k hk) x0
        have xx1 := Kd.cell_heap (fun k hk => HB.out.block k hk) xx1
        have xx2 := Kd.cell_heap (fun k hk => HB.out.block k hk) xx2
        have x3 := Kd.cell_heap (fun k hk => HB.out.block k hk) x3
        have x4 := Kd.cell_heap (fun k hk => HB.out.block k hk) x4
        have x5 := Kd.cell_heap (fun k hk => HB.out.block k hk) x5
        have x6 := Kd.cell_heap (fun k hk => HB.out.block k hk) x6
        have HC5 := Aside0.mk hC5
        clear hC5 hC6 hwa
        go_wp2_with fail
        have KA := Aside0.mk (blk_new wr (.cells #[.int .i64 a.f0, .int .i64 a.f1, .int .i64 a.f2.f0, .int .i64 a.f2.f1, .string a.f2.f2, .slice A5 a.f2.f3.length c5, .slice A6 a.f3.length c6] 32))
        have bA := below_alloc (Below.refl wr.heap.size wr) (.cells #[.int .i64 a.f0, .int .i64 a.f1, .int .i64 a.f2.f0, .int .i64 a.f2.f1, .string a.f2.f2, .slice A5 a.f2.f3.length c5, .slice A6 a.f3.length c6] 32)
        have hpaS1 : wr.heap.size ∉ S1 := fun hm => by have := HN.out.nt.lt _ hm; omega
        have hpaS2 : wr.heap.size ∉ S2 := fun hm => by have := HM.out.nt.lt _ hm; omega
        have N4 := Aside0.mk (HN.out.kept bA)
        have M4 := Aside0.mk (HM.out.kept bA)
        have B4 := Aside0.mk (HB.out.trans (bA.mono HB.out.size))
        have hlA := blk_lt KA.out
        generalize hpa : wr.heap.size = pa at KA hpaS1 hpaS2 hlA ⊢
        generalize wr.alloc (.cells #[.int .i64 a.f0, .int .i64 a.f1, .int .i64 a.f2.f0, .int .i64 a.f2.f1, .string a.f2.f2, .slice A5 a.f2.f3.length c5, .slice A6 a.f3.length c6] 32) = w4 at KA N4 M4 B4 hlA ⊢
        clear bA x0 xx1 xx2 x3 x4 x5 x6 HN HM HB hpa
        have e20 : 20 * (i + 1) = 20 * i + 20 := by omega
        by_cases hno : ¬ (0 ≤ a.f1 ∧ a.f1 < ((3 : Nat) : Int)) ∨ Sb.okA a.f2.f0 0 a.f2.f2.size a.f2.f3.length = false
        · refine (Ask_no2 N4.out.nt a.f1 a.f2.f0 a.f2.f1 a.f2.f2 A5 c5 a.f2.f3 (Kd.C_below HC5.out B4.out) hl5 (by rw [N4.out.len]; exact hno)).mono ?_
          rintro e w5 ⟨rfl, hb5⟩
          rw [N4.out.len]
          have her : (if 0 ≤ a.f1 ∧ a.f1 < ((3 : Nat) : Int) then (14 : Int) else 3) ≠ 0 := by split <;> decide
          generalize hge : (if 0 ≤ a.f1 ∧ a.f1 < ((3 : Nat) : Int) then (14 : Int) else 3) = er at her ⊢
          have he0 : (er == 0) = false := beq_eq_false_iff_ne.2 her
          have KA5 := Aside0.mk (blk_below KA.out hb5)
          have N5 := Aside0.mk (N4.out.kept hb5)
          have M5 := Aside0.mk (M4.out.kept hb5)
          have B5 := Aside0.mk (B4.out.trans (hb5.mono B4.out.size))
          have hl5' := blk_lt KA5.out
          have hne5 : (w5.heap.size == pa) = false := beq_eq_false_iff_ne.2 (by omega)
          have y0 : w5.cell? ⟨pa, 0, none⟩ = some (.int .i64 a.f0) := (blk_cell KA5.out 0).trans rfl
          have y1 : w5.cell? ⟨pa, 1, none⟩ = some (.int .i64 a.f1) := (blk_cell KA5.out 1).trans rfl
          have y2 : w5.cell? ⟨pa, 2, none⟩ = some (.int .i64 a.f2.f0) := (blk_cell KA5.out 2).trans rfl
          have y3 : w5.cell? ⟨pa, 3, none⟩ = some (.int .i64 a.f2.f1) := (blk_cell KA5.out 3).trans rfl
          have y4 : w5.cell? ⟨pa, 4, none⟩ = some (.string a.f2.f2) := (blk_cell KA5.out 4).trans rfl
          have y5 : w5.cell? ⟨pa, 5, none⟩ = some (.slice A5 a.f2.f3.length c5) := (blk_cell KA5.out 5).trans rfl
          have b7 := below_alloc (Below.refl w5.heap.size w5) (.cells #[.int .i64 0, .int .i64 0, .slice none 0 0, .slice none 0 0] 36)
          have N7 := Aside0.mk (N5.out.kept b7)
          have M7 := Aside0.mk (M5.out.kept b7)
          have B7 := Aside0.mk (B5.out.trans (b7.mono B5.out.size))
          have KA7 := Aside0.mk (blk_below KA5.out b7)
          have KP7 := Aside0.mk (blk_new w5 (.cells #[.int .i64 0, .int .i64 0, .slice none 0 0, .slice none 0 0] 36))
          clear hb5 b7 N4 M4 B4 KA
          by_cases hx1 : a.f1 = 1
          · have hd1 : (a.f1 == 1) = true := by rw [hx1]; rfl
            go_wp2_with fail
            go_roundg (l.length - (i + 1))
            case measure => have := HK.out; omega
            case rel => exact ⟨i + 1, ps, rs, x1, s1, t1, x2, s2, t2, by first | rfl | simp, by omega, ⟨by have := HK.out; omega⟩, ⟨by rw [e20]; exact N7.out.more (by omega)⟩, ⟨by rw [e20]; exact M7.out.more (by omega)⟩, ⟨HE.out⟩, ⟨B7.out⟩⟩
          · have hd1 : (a.f1 == 1) = false := beq_eq_false_iff_ne.2 hx1
            go_wp2_with fail
            generalize hpp : w5.heap.size = pp at KP7 ⊢
            generalize w5.alloc (.cells #[.int .i64 0, .int .i64 0, .slice none 0 0, .slice none 0 0] 36) = w7 at N7 M7 B7 KA7 KP7 ⊢
            clear y0 y1 y2 y3 y4 y5
            refine (Ask_no2 M7.out.nt a.f1 a.f2.f0 a.f2.f1 a.f2.f2 A5 c5 a.f2.f3 (Kd.C_below HC5.out B7.out) hl5 (by rw [M7.out.len]; exact hno)).mono ?_
            rintro e w8 ⟨rfl, hb8⟩
            rw [M7.out.len, hge]
            have KP8 := Aside0.mk (blk_below KP7.out hb8)
            have N8 := Aside0.mk (N7.out.kept hb8)
            have M8 := Aside0.mk (M7.out.kept hb8)
            have B8 := Aside0.mk (B7.out.trans (hb8.mono B7.out.size))
            have hl8 := blk_lt KP8.out
            have hne8 : (w8.heap.size == pp) = false := beq_eq_false_iff_ne.2 (by omega)
            have z0 : w8.cell? ⟨pp, 0, none⟩ = some (.int .i64 0) := (blk_cell KP8.out 0).trans rfl
            have z1 : w8.cell? ⟨pp, 1, none⟩ = some (.int .i64 0) := (blk_cell KP8.out 1).trans rfl
            have z2 : w8.cell? ⟨pp, 2, none⟩ = some (.slice none 0 0) := (blk_cell KP8.out 2).trans rfl
            have z3 : w8.cell? ⟨pp, 3, none⟩ = some (.slice none 0 0) := (blk_cell KP8.out 3).trans rfl
            have b9 := below_alloc (Below.refl w8.heap.size w8) (.cells #[.int .i64 0, .int .i64 0, .slice none 0 0, .slice none 0 0] 36)
            have N9 := Aside0.mk (N8.out.kept b9)
            have M9 := Aside0.mk (M8.out.kept b9)
            have B9 := Aside0.mk (B8.out.trans (b9.mono B8.out.size))
            clear hb8 b9 N7 M7 B7
            go_wp2_with fail
            generalize w8.alloc (.cells #[.int .i64 0, .int .i64 0, .slice none 0 0, .slice none 0 0] 36) = w9 at N9 M9 B9 ⊢
            refine (Sb.sameAnswer_calls 0 0 [] [] none 0 0 none 0 0 none 0 0 none 0 0 w9 (Kd.C_nil _ _) rfl (Nat.le_refl _) (Kd.C_nil _ _) rfl (Nat.le_refl _) (Kd.C_nil _ _) rfl (Nat.le_refl _) (Kd.C_nil _ _) rfl (Nat.le_refl _) (by omega) (by omega)).mono ?_
            rintro e w10 ⟨rfl, hb10⟩
            go_wp2_with fail
            go_roundg (l.length - (i + 1))
            case measure => have := HK.out; omega
            case rel => exact ⟨i + 1, ps, rs, x1, s1, t1, x2, s2, t2, by first | rfl | simp, by omega, ⟨by have := HK.out; omega⟩, ⟨by rw [e20]; exact (N9.out.kept hb10).more (by omega)⟩, ⟨by rw [e20]; exact (M9.out.kept hb10).more (by omega)⟩, ⟨HE.out⟩, ⟨B9.out.trans (hb10.mono B9.out.size)⟩⟩
        · obtain ⟨hx, hK⟩ := not_or.1 hno
          have hx := Classical.not_not.1 hx
          have hK : Sb.okA a.f2.f0 0 a.f2.f2.size a.f2.f3.length = true := by simpa using hK
          by_cases hx1 : a.f1 = 1
          · obtain ⟨p, hp, hmu, hpL, hpd⟩ := N4.out.a1
            rw [hx1]
            have hs := N4.out.sent
            have ht := N4.out.ticks
            refine (Ask_mute N4.out.nt N4.out.ts (tt := 1) hp (fun j r hj hne => (N4.out.oth j r hj hne).1) N4.out.ty B4.out HS1.out hmu N4.out.num (by omega) (by omega) a.f2.f0 a.f2.f1 a.f2.f2 A5 c5 a.f2.f3 hK htb.out HC5.out hl5).mono ?_
            rintro e w5 ⟨u, num', rfl, hn5, hM5, hN5, hT5⟩
            have KA5 := Aside0.mk (hT5.blk KA.out (by decide) hpaS1)
            have N5 := Aside0.mk (N4.out.silent hp hN5 hM5 hn5)
            have M5 := Aside0.mk (M4.out.aside hT5 (fun k h2 h1 => HD.out k h1 h2) N4.out.tys)
            have B5 := Aside0.mk (Tf.below B4.out hT5 B4.out.size HS1.out)
            have hl5' := blk_lt KA5.out
            have hne5 : (w5.heap.size == pa) = false := beq_eq_false_iff_ne.2 (by omega)
            have y0 : w5.cell? ⟨pa, 0, none⟩ = some (.int .i64 a.f0) := (blk_cell KA5.out 0).trans rfl
            have y1 : w5.cell? ⟨pa, 1, none⟩ = some (.int .i64 a.f1) := (blk_cell KA5.out 1).trans rfl
            have y2 : w5.cell? ⟨pa, 2, none⟩ = some (.int .i64 a.f2.f0) := (blk_cell KA5.out 2).trans rfl
            have y3 : w5.cell? ⟨pa, 3, none⟩ = some (.int .i64 a.f2.f1) := (blk_cell KA5.out 3).trans rfl
            have y4 : w5.cell? ⟨pa, 4, none⟩ = some (.string a.f2.f2) := (blk_cell KA5.out 4).trans rfl
            have y5 : w5.cell? ⟨pa, 5, none⟩ = some (.slice A5 a.f2.f3.length c5) := (blk_cell KA5.out 5).trans rfl
            rw [hx1] at y1
            have b7 := below_alloc (Below.refl w5.heap.size w5) (.cells #[.int .i64 0, .int .i64 0, .slice none 0 0, .slice none 0 0] 36)
            have N7 := Aside0.mk (N5.out.kept b7)
            have M7 := Aside0.mk (M5.out.kept b7)
            have B7 := Aside0.mk (B5.out.trans (b7.mono B5.out.size))
            have HE7 := Aside0.mk (HE.out.mute (u := u) hp)
            clear hM5 hN5 hT5 hmu
            go_wp2_with fail
            go_roundg (l.length - (i + 1))
            case measure => have := HK.out; omega
            case rel => exact ⟨i + 1, _, rs, num', s1 + 5, t1 + 20, x2, s2, t2, by first | rfl | simp, by omega, ⟨by have := HK.out; omega⟩, ⟨by rw [e20]; exact N7.out⟩, ⟨by rw [e20]; exact M7.out.more (by omega)⟩, ⟨HE7.out⟩, ⟨B7.out⟩⟩
          · obtain ⟨tt, htt⟩ := Int.eq_ofNat_of_zero_le hx.1
            rw [htt] at hx hx1 ⊢
            have htn : tt ≠ 1 := fun e => hx1 (by rw [e]; rfl)
            have hlt1 : tt < ps.length := by rw [N4.out.len]; omega
            have hlt2 : tt < rs.length := by rw [M4.out.len]; omega
            obtain ⟨p, hp⟩ : ∃ p, ps[tt]? = some p := ⟨_, List.getElem?_eq_getElem hlt1⟩
            obtain ⟨r, hr⟩ : ∃ r, rs[tt]? = some r := ⟨_, List.getElem?_eq_getElem hlt2⟩
            obtain ⟨p1, p2, p3⟩ := N4.out.oth tt p hp htn
            obtain ⟨r1, r2, r3⟩ := M4.out.oth r (List.mem_of_getElem? hr)
            refine (Ask_first (T := S1) (m := 20 * i) N4.out.nt N4.out.ts hp p1 (by omega) p2 p3 N4.out.num N4.out.sent N4.out.ticks (by omega) a.f2.f0 a.f2.f1 a.f2.f2 A5 c5 a.f2.f3 hK htb.out (F_elder HC5.out B4.out HS1.out) hl5).mono ?_
            rintro e w5 ⟨ub, un, code, bd, ns, L1, y1', y2', y3', rfl, hub, hun, hN5, hT5, hD1, hok1, hL1, hE1, hb1, hb2, hb3⟩
            have hsz := hD1.small (N4.out.nt.prov p (List.mem_of_getElem? hp)).small
            have KA5 := Aside0.mk (hT5.blk KA.out hpaS1)
            have N5 := Aside0.mk (N4.out.asked htn hp hN5 (fun v hv => hv.aside hT5 N4.out.tys) hL1 hE1 hb1 hb2 hb3)
            have M5 := Aside0.mk (M4.out.aside (base := w.heap.size) (Tf.of hT5) (fun k h2 h1 => HD.out k h1 h2) N4.out.tys)
            have B5 := Aside0.mk (Tn.below B4.out hT5 B4.out.size HS1.out)
            have hltS2 := M4.out.nt.lt
            have FB := Aside0.mk (fun (A : Option Addr) (n c : Nat) (h : Bs.R 5 w5 w4.heap.size (fun _ => True) (.slice A n c) bd) => Kd.F_mono (ok' := fun k => k ∉ S2) (Kd.R_F (Kd.R_bound h)) (fun j hj hm => by have := hltS2 j hm; have := hj.2.1; omega))
            have FN := Aside0.mk (fun (A : Option Addr) (n c : Nat) (h : Kd.string.R 9 w5 w4.heap.size (fun _ => True) (.slice A n c) ns) => Kd.F_mono (ok' := fun k => k ∉ S2) (Kd.R_F (Kd.R_bound h)) (fun j hj hm => by have := hltS2 j hm; have := hj.2.1; omega))
            obtain ⟨Ab, cb, rfl, hcb, _⟩ := Kd.R_reads hub
            obtain ⟨An, cn, rfl, hcn, _⟩ := Kd.R_reads hun
            have FB5 := Aside0.mk (FB.out _ _ _ hub)
            have FN5 := Aside0.mk (FN.out _ _ _ hun)
            have HD1 := Aside0.mk hD1
            clear hub hun hN5 hT5 FB FN hltS2 hD1
            have hl5' := blk_lt KA5.out
            have hne5 : (w5.heap.size == pa) = false := beq_eq_false_iff_ne.2 (by omega)
            have y0 : w5.cell? ⟨pa, 0, none⟩ = some (.int .i64 a.f0) := (blk_cell KA5.out 0).trans rfl
            have y1 : w5.cell? ⟨pa, 1, none⟩ = some (.int .i64 a.f1) := (blk_cell KA5.out 1).trans rfl
            have y2 : w5.cell? ⟨pa, 2, none⟩ = some (.int .i64 a.f2.f0) := (blk_cell KA5.out 2).trans rfl
            have y3 : w5.cell? ⟨pa, 3, none⟩ = some (.int .i64 a.f2.f1) := (blk_cell KA5.out 3).trans rfl
            have y4 : w5.cell? ⟨pa, 4, none⟩ = some (.string a.f2.f2) := (blk_cell KA5.out 4).trans rfl
            have y5 : w5.cell? ⟨pa, 5, none⟩ = some (.slice A5 a.f2.f3.length c5) := (blk_cell KA5.out 5).trans rfl
            rw [htt] at y1
            have hd1 : ((tt : Int) == 1) = false := beq_eq_false_iff_ne.2 hx1
            have b7 := below_alloc (Below.refl w5.heap.size w5) (.cells #[.int .i64 0, .int .i64 code, .slice Ab bd.length cb, .slice An ns.length cn] 36)
            have N7 := Aside0.mk (N5.out.kept b7)
            have M7 := Aside0.mk (M5.out.kept b7)
            have B7 := Aside0.mk (B5.out.trans (b7.mono B5.out.size))
            have FB7 := Aside0.mk (Kd.F_below FB5.out b7)
            have FN7 := Aside0.mk (Kd.F_below FN5.out b7)
            have KP7 := Aside0.mk (blk_new w5 (.cells #[.int .i64 0, .int .i64 code, .slice Ab bd.length cb, .slice An ns.length cn] 36))
            have hppS : w5.heap.size ∉ S2 := fun hm => by have := M5.out.nt.lt _ hm; omega
            clear b7 N4 M4 B4 KA
            go_wp2_with fail
            generalize hpp : w5.heap.size = pp at KP7 hppS ⊢
            generalize w5.alloc (.cells #[.int .i64 0, .int .i64 code, .slice Ab bd.length cb, .slice An ns.length cn] 36) = w7 at N7 M7 B7 FB7 FN7 KP7 ⊢
            clear y0 y1 y2 y3 y4 y5
            refine (Ask_first (T := S2) (m := 20 * i) M7.out.nt M7.out.ts hr r1 (by omega) r2 r3 M7.out.num M7.out.sent M7.out.ticks (by omega) a.f2.f0 a.f2.f1 a.f2.f2 A5 c5 a.f2.f3 hK htb.out (F_elder HC5.out B7.out HS2.out) hl5).mono ?_
            rintro e w8 ⟨ub2, un2, code2, bd2, ns2, L2, z1', z2', z3', rfl, hub2, hun2, hN8, hT8, hD2, hok2, hL2, hE2, hc1', hc2', hc3'⟩
            obtain ⟨q1, q2, q3, q4⟩ := DoR.two (HE.out tt p r htn hp hr) HD1.out hD2 hok1 hok2
            subst q1 q2 q3
            obtain ⟨Ab2, cb2, rfl, hcb2, hCb2⟩ := Kd.R_reads hub2
            obtain ⟨An2, cn2, rfl, hcn2, hCn2⟩ := Kd.R_reads hun2
            have KP8 := Aside0.mk (hT8.blk KP7.out hppS)
            have N8 := Aside0.mk (N7.out.aside hT8 HD.out M7.out.tys)
            have M8 := Aside0.mk (M7.out.asked hr hN8 hL2 hE2 hc1' hc2' hc3')
            have B8 := Aside0.mk (Tn.below B7.out hT8 B7.out.size HS2.out)
            have CB8 := Aside0.mk (Kd.F_now (hT8.F (fun _ h => h) FB7.out))
            have CN8 := Aside0.mk (Kd.F_now (hT8.F (fun _ h => h) FN7.out))
            have HCb := Aside0.mk hCb2
            have HCn := Aside0.mk hCn2
            have HE8 := Aside0.mk (HE.out.set hp hr q4)
            clear hub2 hun2 hN8 hT8 hD2 hCb2 hCn2 FB7 FN7 q4
            have hl8 := blk_lt KP8.out
            have hne8 : (w8.heap.size == pp) = false := beq_eq_false_iff_ne.2 (by omega)
            have z0 : w8.cell? ⟨pp, 0, none⟩ = some (.int .i64 0) := (blk_cell KP8.out 0).trans rfl
            have z1 : w8.cell? ⟨pp, 1, none⟩ = some (.int .i64 code) := (blk_cell KP8.out 1).trans rfl
            have z2 : w8.cell? ⟨pp, 2, none⟩ = some (.slice Ab bd.length cb) := (blk_cell KP8.out 2).trans rfl
            have z3 : w8.cell? ⟨pp, 3, none⟩ = some (.slice An ns.length cn) := (blk_cell KP8.out 3).trans rfl
            have b9 := below_alloc (Below.refl w8.heap.size w8) (.cells #[.int .i64 0, .int .i64 code, .slice Ab2 bd.length cb2, .slice An2 ns.length cn2] 36)
            have N9 := Aside0.mk (N8.out.kept b9)
            have M9 := Aside0.mk (M8.out.kept b9)
            have B9 := Aside0.mk (B8.out.trans (b9.mono B8.out.size))
            have CB9 := Aside0.mk (Kd.C_below CB8.out b9)
            have CN9 := Aside0.mk (Kd.C_below CN8.out b9)
            have HCb9 := Aside0.mk (Kd.C_below HCb.out b9)
            have HCn9 := Aside0.mk (Kd.C_below HCn.out b9)
            clear b9 N7 M7 B7 CB8 CN8 HCb HCn
            go_wp2_with fail
            generalize w8.alloc (.cells #[.int .i64 0, .int .i64 code, .slice Ab2 bd.length cb2, .slice An2 ns.length cn2] 36) = w9 at N9 M9 B9 CB9 CN9 HCb9 HCn9 ⊢
            refine (Sb.sameAnswer_calls 0 code bd ns Ab bd.length cb An ns.length cn Ab2 bd.length cb2 An2 ns.length cn2 w9 CB9.out rfl hcb CN9.out rfl hcn HCb9.out rfl hcb2 HCn9.out rfl hcn2 (by omega) (by omega)).mono ?_
            rintro e w10 ⟨rfl, hb10⟩
            have HEX := HE8.out
            go_wp2_with fail
            go_roundg (l.length - (i + 1))
            case measure => have := HK.out; omega
            case rel => exact ⟨i + 1, _, _, y1', y2', y3', z1', z2', z3', by first | rfl | simp, by omega, ⟨by have := HK.out; omega⟩, ⟨by rw [e20]; exact N9.out.kept hb10⟩, ⟨by rw [e20]; exact M9.out.kept hb10⟩, ⟨HEX⟩, ⟨B9.out.trans (hb10.mono B9.out.size)⟩⟩
      · have hci : ¬ ((i : Int) < (l.length : Int)) := by omega
        go_wp2_with fail
        obtain ⟨p, hp, _, hpL, hpd⟩ := HN.out.a1
        refine (Own_none HN.out.nt HN.out.ts (tt := 1) hp (fun j r hj hne => (HN.out.oth j r hj hne).1)).mono ?_
        rintro e w5 ⟨rfl, hN5, hT5⟩
        have hlt1 := (List.getElem?_eq_some_iff.1 hp).1
        have B5 := Aside0.mk (Tn.below HB.out hT5 HB.out.size HS1.out)
        have HN5 := Aside0.mk hN5
        have HTS := HN.out.ts.set hp { p with o := .slice none 0 0 } rfl
        have hp5 : (ps.set 1 { p with o := .slice none 0 0 })[1]? = some { p with o := .slice none 0 0 } := List.getElem?_set_self hlt1
        clear hN5 hT5
        go_wp2_with fail
        refine (Ask_first (T := S1) (tt := 1) (m := 20 * l.length) HN5.out HTS hp5 rfl (by omega) (by rw [show ({ p with o := .slice none 0 0 } : Pr).L = [] from hpL]; simp) (by rw [show ({ p with o := .slice none 0 0 } : Pr).L = [] from hpL]; exact fun y hy => by cases hy) HN.out.num (by have := HN.out.sent; omega) (by have := HN.out.ticks; omega) (by omega) 3 0 ⟨#[]⟩ none 0 [] (by decide +kernel) Sb.Bytes.nil (Kd.F_nil _ _ _) (Nat.le_refl _)).mono ?_
        rintro e w6 ⟨ub, un, code, bd, ns, L1, y1', y2', y3', rfl, hub, hun, hN6, hT6, hD1, _, _, _, _, _, _⟩
        have hL1 : L1 = [] := by
          rw [show ({ p with o := .slice none 0 0 } : Pr).L = [] from hpL] at hD1
          rcases hD1 with ⟨_, h, _⟩ | ⟨_, _, ⟨h, _⟩ | ⟨_, h, _⟩ | ⟨_, h, _⟩ | ⟨h, _⟩⟩
          · exact h
          · exact absurd h (by decide)
          · exact h
          · exact h
          · exact absurd h (by decide)
        subst hL1
        obtain ⟨Ab, cb, rfl, _, _⟩ := Kd.R_reads hub
        obtain ⟨An, cn, rfl, _, _⟩ := Kd.R_reads hun
        rw [List.set_set] at hN6
        have b7 := below_alloc (Below.refl w6.heap.size w6) (.cells #[.int .i64 0, .int .i64 code, .slice Ab bd.length cb, .slice An ns.length cn] 36)
        have N7 := Aside0.mk (hN6.kept b7)
        have B7 := Aside0.mk ((Tn.below B5.out hT6 B5.out.size HS1.out).trans (b7.mono (Nat.le_trans B5.out.size hT6.size)))
        have hp7 : (ps.set 1 { p with o := .slice none 0 0, L := [] })[1]? = some { p with o := .slice none 0 0, L := [] } := List.getElem?_set_self hlt1
        clear hub hun hN6 hT6 hD1 b7 HN HM HE HB
        go_wp2_with fail
        generalize w6.alloc (.cells #[.int .i64 0, .int .i64 code, .slice Ab bd.length cb, .slice An ns.length cn] 36) = w7 at N7 B7 ⊢
        refine (Provider_calls N7.out (tt := 1) hp7).mono ?_
        rintro e w8 ⟨rfl, rfl⟩
        go_wp2_with fail
        refine (Size_calls p.g p.b 1000 [] w8 (N7.out.prov _ (List.mem_of_getElem? hp7)) (by simp)).mono ?_
        rintro e w9 ⟨rfl, hb9⟩
        have N9 := Aside0.mk (N7.out.kept hb9)
        have B9 := Aside0.mk (B7.out.trans (hb9.mono B7.out.size))
        have hz : ((sumE [] : Nat) : Int) = 0 := rfl
        rw [hz]
        clear hb9 N7 B7 hz
        go_wp2_with fail
        refine (Deviated_calls N9.out (tt := 1) hp7).mono ?_
        rintro e w10 ⟨rfl, rfl⟩
        simp only [hpd]
        go_wp2_with fail
        go_ret
        exact ⟨rfl, B9.out⟩
end Go.Proofs.Ytpkfeepepbchlaa.Bl
