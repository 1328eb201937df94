import Derived.Test.YtpkfeepepbchlaaGLkB
namespace Go.Proofs.Ytpkfeepepbchlaa.Bl
open Go.RowKit Go.Maps Go.Proofs.YtpkfeepepbchlaaW.PrintWords Go.Proofs.YtpkfeepepbchlaaW.PrintLast Go.Proofs.YtpkfeepepbchlaaW.PrintMore Go.Proofs.Ytpkfeepepbchlaa.PK
set_option linter.unusedVariables false
set_option linter.unusedSimpArgs false
variable {w : World}
theorem al_more {m m' : Nat} {ps : List Pr} {fs : List Ft} {num sent ticks : Int} (h : Al m ps fs num sent ticks) (hm : m ≤ m') : Al m' ps fs num sent ticks :=
  ⟨h.ft, fun p hp => by have := h.pr p hp; exact ⟨this.1, by omega, this.2.2⟩, h.num, by have := h.sent; omega, by have := h.ticks; omega⟩
set_option maxRecDepth 20000 in
set_option maxHeartbeats 16000000 in
theorem LinkHonest_walk (A0 : Option Addr) (len0 c0 : Nat) (f : List S43) (hl0 : f.length = len0) (hC0 : Kd.C k43 w A0 len0 f) (hc0 : len0 ≤ c0) (hm0 : len0 ≤ maxLen) (hw0 : ∀ x ∈ f, FateWf x) (A1 : Option Addr) (len1 c1 : Nat) (l : List S32) (hl1 : l.length = len1) (hC1 : Kd.C k32 w A1 len1 l) (hc1 : len1 ≤ c1) (hm1 : len1 ≤ maxLen) (hw1 : ∀ x ∈ l, ActWf x) :
    Calls Try.prog 4 #[.slice A0 len0 c0, .slice A1 len1 c1] w fun e w' => e = .returned (.bool true) ∧ Below w.heap.size w w' := by
  subst hl0 hl1
  have HF := Aside0.mk hC0
  have HL := Aside0.mk hC1
  have HWL := Aside0.mk hw1
  have HWF := Aside0.mk hw0
  clear hC0 hC1 hw0 hw1
  obtain ⟨lr, hlr, hlr2⟩ := long_is 999 (by omega) l f
  go_enter Try.func4, Try.ntmps4
  go_wp2_with fail
  refine (wakes_calls w).mono ?_
  rintro e w1 ⟨rfl, hb1⟩
  have B1 := Aside0.mk hb1
  clear hb1
  go_wp2_with fail
  refine (scriniumlaw20_long.calls (999 + 1) A1 c1 l A0 c0 f lr w1 (Kd.C_below HL.out B1.out) hc1 (Kd.C_below HF.out B1.out) hc0 hlr).mono ?_
  rintro e w2 ⟨rfl, hd2⟩
  have B2 := Aside0.mk (B1.out.trans (Drawn0.below hd2 |>.mono B1.out.size))
  clear hd2 hlr B1
  cases lr with
  | true =>
    go_wp2_with fail
    go_ret
    exact ⟨rfl, B2.out⟩
  | false =>
    obtain ⟨hl40, hf200, hf3⟩ := hlr2 rfl
    clear hlr2
    have hfo : FtOk f := fun x hx => ⟨hf3 x hx, bytes_wf (HWF.out x hx).2.2⟩
    have HFO := Aside0.mk hfo
    clear hfo
    go_wp2_with fail
    refine (New_net 3 (by omega) 1000 (by omega) A0 c0 f w2 (Kd.C_below HF.out B2.out) hc0 (by omega) hf3).mono ?_
    rintro e w3 ⟨n, gp, cap, ps0, rfl, hN, hpl, hps, hnew, hb3⟩
    obtain ⟨hal, hhon⟩ := new_al hps HFO.out
    have hTs := ts_new n gp ps0
    have HSN := Aside0.mk (show ∀ s ∈ n :: gp :: ps0.map (·.b), w.heap.size ≤ s from fun s hs => Nat.le_trans B2.out.size (hnew s hs))
    generalize n :: gp :: ps0.map (·.b) = S at hN hTs HSN
    have B3 := Aside0.mk (B2.out.trans (hb3.mono B2.out.size))
    have N3 := Aside0.mk hN
    have AL3 := Aside0.mk hal
    have HO3 := Aside0.mk hhon
    have TS3 := Aside0.mk hTs
    clear hN hal hhon hTs hb3 hnew hps B2 hf3 HF HFO HWF
    go_wp2_with fail
    go_loopg [18] l.length (fun kq v18 w' => ∃ (i : Nat) (ps : List Pr) (fs : List Ft) (num sent ticks : Int), v18 = .int .i64 i ∧ i ≤ l.length ∧ ps.length = 3 ∧ Aside0 (kq + i = l.length) ∧ Aside0 (Nt S w' n gp cap 1000 ps fs num sent ticks) ∧ Aside0 (Ts S S n gp ps) ∧ Aside0 (Al (20 * i) ps fs num sent ticks) ∧ Aside0 (Hon ps) ∧ Aside0 (Below w.heap.size w w'))
    case atStart => exact ⟨0, ps0, f, 0, 0, 0, rfl, Nat.zero_le _, hpl, ⟨rfl⟩, N3, TS3, AL3, HO3, B3⟩
    case round =>
      obtain ⟨i, ps, fs, num, sent, ticks, rfl, hi, hpn, HK, HN, HT, HAL, HHO, HB⟩ := hrel
      clear N3 TS3 AL3 HO3 B3
      by_cases hlt : i < l.length
      · have hci : (i : Int) < (l.length : Int) := by omega
        obtain ⟨ad, A5, c5, A6, c6, e9, x0, x1, x2, x3, x4, x5, x6, hl5, hC5, hl6, hC6⟩ := at_T32 HL.out i (Int.natCast_nonneg _) hci
        cases e9
        rw [rd_act l i hlt] at x0 x1 x2 x3 x4 x5 x6 hl5 hC5 hl6 hC6
        have hwa := HWL.out l[i] (List.getElem_mem hlt)
        have htb := Aside0.mk (bytes_wf hwa.2.2.1.2.2.2.2)
        generalize l[i] = a at x0 x1 x2 x3 x4 x5 x6 hl5 hC5 hl6 hC6 htb
        rw [Int.toNat_natCast] at x0 x1 x2 x3 x4 x5 x6
        have x0 := Kd.cell_heap (fun k hk => HB.out.block k hk) x0
        have x1 := Kd.cell_heap (fun k hk => HB.out.block k hk) x1
        have x2 := Kd.cell_heap (fun k hk => HB.out.block k hk) x2
        have x3 := Kd.cell_heap (fun k hk => HB.out.block k hk) x3
        have x4 := Kd.cell_heap (fun k hk => HB.out.block k hk) x4
        have x5 := Kd.cell_heap (fun k hk => HB.out.block k hk) x5
        have x6 := Kd.cell_heap (fun k hk => HB.out.block k hk) x6
        have HC5 := Aside0.mk hC5
        clear hC5 hC6 hwa
        by_cases hk1 : a.f0 = 1
        · have hd1 : (a.f0 == 1) = true := by rw [hk1]; rfl
          go_wp2_with fail
          go_roundg (l.length - (i + 1))
          case measure => have := HK.out; omega
          case rel => exact ⟨i + 1, ps, fs, num, sent, ticks, by first | rfl | simp, by omega, by omega, ⟨by have := HK.out; omega⟩, ⟨HN.out.kept (below_alloc (Below.refl _ _) _)⟩, HT, ⟨al_more HAL.out (by omega)⟩, HHO, ⟨below_alloc HB.out _⟩⟩
        · have hd1 : (a.f0 == 1) = false := beq_eq_false_iff_ne.2 hk1
          go_wp2_with fail
          have KA := Aside0.mk (blk_new wr (.cells #[.int .i64 a.f0, .int .i64 a.f1, .int .i64 a.f2.f0, .int .i64 a.f2.f1, .string a.f2.f2, .slice A5 a.f2.f3.length c5, .slice A6 a.f3.length c6] 32))
          have bA := below_alloc (Below.refl wr.heap.size wr) (.cells #[.int .i64 a.f0, .int .i64 a.f1, .int .i64 a.f2.f0, .int .i64 a.f2.f1, .string a.f2.f2, .slice A5 a.f2.f3.length c5, .slice A6 a.f3.length c6] 32)
          have N4 := Aside0.mk (HN.out.kept bA)
          have B4 := Aside0.mk (HB.out.trans (bA.mono HB.out.size))
          generalize hpa : wr.heap.size = pa at KA ⊢
          generalize wr.alloc (.cells #[.int .i64 a.f0, .int .i64 a.f1, .int .i64 a.f2.f0, .int .i64 a.f2.f1, .string a.f2.f2, .slice A5 a.f2.f3.length c5, .slice A6 a.f3.length c6] 32) = w4 at KA N4 B4 ⊢
          clear bA x0 x1 x2 x3 x4 x5 x6 HN HB hpa
          refine (Ask_all (m := 20 * i) N4.out HT.out HAL.out (by omega) (by omega) a.f1 a.f2.f0 a.f2.f1 a.f2.f2 A5 c5 a.f2.f3 htb.out (F_elder HC5.out B4.out HSN.out) hl5).mono ?_
          rintro e w5 ⟨ub, un, er, code, bd, ns, ps', fs', num', sent', ticks', rfl, hub, hun, hN5, hT5, hTs5, hpl5, hAl5, hH5, hse⟩
          obtain ⟨Ab, cb, rfl, _, _⟩ := Kd.R_reads hub
          obtain ⟨An, cn, rfl, _, _⟩ := Kd.R_reads hun
          have HN5 := Aside0.mk hN5
          have HB5 := Aside0.mk (Tn.below B4.out hT5 B4.out.size HSN.out)
          have HT5 := Aside0.mk hTs5
          have e20 : 20 * (i + 1) = 20 * i + 20 := by omega
          have HAL5 := Aside0.mk (show Al (20 * (i + 1)) ps' fs' num' sent' ticks' from by rw [e20]; exact hAl5)
          have HHO5 := Aside0.mk (hH5 HHO.out)
          have hpn5 : ps'.length = 3 := by omega
          clear hub hun hN5 hT5 hTs5 hAl5 hH5 N4 B4 HAL HT HHO
          go_wp2_with fail
          go_loopg [31] 3 (fun kq v31 w' => ∃ (j : Nat), v31 = .int .i64 j ∧ j ≤ 3 ∧ Aside0 (kq + j = 3) ∧ Aside0 (Nt S w' n gp cap 1000 ps' fs' num' sent' ticks') ∧ Aside0 (Below w.heap.size w w'))
          case atStart => exact ⟨0, rfl, by omega, ⟨rfl⟩, HN5, HB5⟩
          case round =>
            obtain ⟨j, rfl, hj, HKj, HNj, HBj⟩ := hrel
            clear HN5 HB5
            by_cases hj3 : j < 3
            · have hcj : (j : Int) < 3 := by omega
              have hdj : decide ((j : Int) < 3) = true := decide_eq_true hcj
              have hpj : ps'[j]? = some (ps'[j]'(by omega)) := List.getElem?_eq_getElem (by omega)
              generalize ps'[j]'(by omega) = pj at hpj
              have hho := HHO5.out pj (List.mem_of_getElem? hpj)
              go_wp2_with fail
              refine (Blamed_calls HNj.out hpj).mono ?_
              rintro e w7 ⟨rfl, rfl⟩
              cases hb : pj.bl with
              | false =>
                go_wp2_with fail
                go_roundg (3 - (j + 1))
                case measure => have := HKj.out; omega
                case rel => exact ⟨j + 1, by first | rfl | simp, by omega, ⟨by have := HKj.out; omega⟩, HNj, HBj⟩
              | true =>
                have hdv := hho hb
                go_wp2_with fail
                refine (Deviated_calls HNj.out hpj).mono ?_
                rintro e w8 ⟨rfl, rfl⟩
                rw [hdv]
                go_wp2_with fail
                go_roundg (3 - (j + 1))
                case measure => have := HKj.out; omega
                case rel => exact ⟨j + 1, by first | rfl | simp, by omega, ⟨by have := HKj.out; omega⟩, HNj, HBj⟩
            · have hcj : ¬ ((j : Int) < 3) := by omega
              have hdj : decide ((j : Int) < 3) = false := decide_eq_false hcj
              go_wp2_with fail
              go_roundg (l.length - (i + 1))
              case measure => have := HK.out; omega
              case rel => exact ⟨i + 1, ps', fs', num', sent', ticks', by first | rfl | simp, by omega, by omega, ⟨by have := HK.out; omega⟩, HNj, HT5, HAL5, HHO5, HBj⟩
      · have hci : ¬ ((i : Int) < (l.length : Int)) := by omega
        go_wp2_with fail
        go_ret
        exact ⟨rfl, HB.out⟩
end Go.Proofs.Ytpkfeepepbchlaa.Bl
