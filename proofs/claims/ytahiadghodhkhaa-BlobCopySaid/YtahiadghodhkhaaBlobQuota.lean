/- blob: BlobQuota. -/
import Derived.Test.YtahiadghodhkhaaBc
import Derived.Test.YtahiadghodhkhaaPBx8
namespace Go.Proofs.Ytahiadghodhkhaa.Bl
open Go.RowKit Go.Maps Go.Proofs.YtahiadghodhkhaaW.PrintWords Go.Proofs.YtahiadghodhkhaaW.PrintLast Go.Proofs.YtahiadghodhkhaaW.PrintMore Go.Proofs.Ytahiadghodhkhaa.PB
set_option linter.unusedVariables false
set_option linter.unusedSimpArgs false

/-- Where 'long' says no, there are few. -/
theorem long_loop (l : List S29) (hl : l.length ≤ 60) : ∀ (d i k : Nat), i + d = l.length → d < k → ∃ r, scriniumlaw19_long.l0 k l (l.length : Int) i = some r := by
  intro d
  induction d with
  | zero =>
    intro i k hi hk
    obtain ⟨k, rfl⟩ : ∃ j, k = j + 1 := ⟨k - 1, by omega⟩
    unfold scriniumlaw19_long.l0
    exact ⟨_, if_neg (by omega)⟩
  | succ d ih =>
    intro i k hi hk
    obtain ⟨k, rfl⟩ : ∃ j, k = j + 1 := ⟨k - 1, by omega⟩
    unfold scriniumlaw19_long.l0
    rw [if_pos (by omega), if_pos (by omega), if_pos (by omega)]
    split
    · exact ⟨_, rfl⟩
    · split
      · exact ⟨_, rfl⟩
      · obtain ⟨r, hr⟩ := ih (i + 1) k (by omega) (by omega)
        have e : wrap64 ((i : Int) + 1) = ((i + 1 : Nat) : Int) := by unfold wrap64; omega
        rw [e]
        exact ⟨r, hr⟩
theorem long_is (l : List S29) : ∃ r, scriniumlaw19_long.f 100 l = some r ∧ (r = false → l.length ≤ 60) := by
  unfold scriniumlaw19_long.f
  by_cases h : (l.length : Int) > 60
  · rw [if_pos h]
    exact ⟨true, rfl, by simp⟩
  · rw [if_neg h]
    obtain ⟨r, hr⟩ := long_loop l (by omega) l.length 0 100 (by omega) (by omega)
    exact ⟨r, hr, fun _ => by omega⟩
theorem DoR.sum {q : Int} {L L' : List Ent} {kind num nm code : Int} {k : ByteArray} {t bd : List Int} {ns : List ByteArray} (h : DoR q L kind num k t L' nm code bd ns) (hap : L.Pairwise fun x y => x.1 ≠ y.1) (hq : (sumE L : Int) ≤ q) :
    (sumE L' : Int) ≤ q ∧ (code ≠ 0 → sumE L' = sumE L) := by
  have ho := sum_off k L hap
  rcases h with ⟨_, rfl, _⟩ | ⟨_, _, ⟨_, _, _, ⟨_, _, rfl⟩ | ⟨h1, h2, A, c, rfl⟩⟩ | ⟨_, rfl, _⟩ | ⟨_, rfl, _⟩ | ⟨_, rfl, _, _, hc⟩⟩
  · exact ⟨hq, fun _ => rfl⟩
  · exact ⟨hq, fun _ => rfl⟩
  · rw [sum_put]
    exact ⟨by omega, fun h => absurd h2 h⟩
  · exact ⟨hq, fun _ => rfl⟩
  · exact ⟨hq, fun _ => rfl⟩
  · refine ⟨by omega, fun h => ?_⟩
    cases hf : findE k L with
    | none => rw [hf] at ho; simpa using ho
    | some x => rw [hf] at hc; exact absurd (by simpa using hc) h

set_option maxRecDepth 20000 in
set_option maxHeartbeats 8000000 in
theorem BlobQuota_walk (q : Int) (hq : 0 ≤ q ∧ q ≤ 255) (A : Option Addr) (cap : Nat) (l : List S29) (w : World) (hc : l.length ≤ cap) (hC : Kd.C k29 w A l.length l) :
    Calls Try.prog 4 #[.int .u8 q, .slice A l.length cap] w fun e w' => e = .returned (.bool true) ∧ Below w.heap.size w w' := by
  have hq0 := hq.1
  have HC2 := Aside0.mk hC
  have hz : IntKind.i64.wrap q = q := IntWalk.i64_in _ (by omega)
  clear hC
  obtain ⟨lr, hlr, hlr2⟩ := long_is l
  go_enter Try.func4, Try.ntmps4
  go_wp2_with fail
  refine (wakes_calls w).mono ?_
  rintro e w1 ⟨rfl, hb1⟩
  have B1 := Aside0.mk hb1
  clear hb1
  go_wp2_with fail
  refine (scriniumlaw19_long.calls 100 A cap l lr w1 (Kd.C_below HC2.out B1.out) hc hlr).mono ?_
  rintro e w2 ⟨rfl, hd2⟩
  have B2 := Aside0.mk (B1.out.trans (Drawn0.below hd2 |>.mono B1.out.size))
  clear hd2 hlr
  cases lr with
  | true =>
    go_wp2_with fail
    go_ret
    exact ⟨rfl, B2.out⟩
  | false =>
    have hl60 := hlr2 rfl
    clear hlr2
    go_wp2_with fail
    refine (New_calls q w2).mono ?_
    rintro e w3 ⟨g, b, rfl, hB, hg, hbb, hb3⟩
    rw [if_neg (by omega)] at hB
    have HB3 := Aside0.mk hB
    have B3 := Aside0.mk (B2.out.trans (hb3.mono B2.out.size))
    have hgw : w.heap.size ≤ g := Nat.le_trans B2.out.size hg
    have hbw : w.heap.size ≤ b := Nat.le_trans B2.out.size hbb
    clear hB hb3 hg hbb
    go_wp2_with fail
    go_loopg [19] l.length (fun kq v19 w' => ∃ (i : Nat) (L : List Ent), v19 = .int .i64 i ∧ i ≤ l.length ∧ L.length ≤ i ∧ (sumE L : Int) ≤ q ∧ Aside0 (kq + i = l.length) ∧ Aside0 (Bl w' g b q L) ∧ Aside0 (Below w.heap.size w w'))
    case atStart => exact ⟨0, [], rfl, Nat.zero_le _, Nat.le_refl _, by simpa [sumE] using hq0, ⟨rfl⟩, HB3, B3⟩
    case round =>
      obtain ⟨i, L, rfl, hi, hLi, hsq, HK, HBL, HB⟩ := hrel
      clear HB3 B3
      by_cases hlt : i < l.length
      · have hci : (i : Int) < (l.length : Int) := by omega
        obtain ⟨ad, A9, c9, e9, hx0, hx1, hx2, hx3, hl9, hi9⟩ := at_T29 (Kd.C_below HC2.out HB.out) i (Int.natCast_nonneg _) hci
        cases e9
        generalize rd_T29 l i = a at hx0 hx1 hx2 hx3 hl9 hi9
        rw [Int.toNat_natCast] at hx0 hx1 hx2 hx3
        have HI9 := Aside0.mk hi9
        have HL9 := Aside0.mk hl9
        clear hi9 hl9
        go_wp2_with fail
        have P1 := Aside0.mk (blk_new wr (.cells #[.int .i64 a.f0, .int .i64 a.f1, .string a.f2, .slice A9 a.f3.length c9] 29))
        have bw1 := Aside0.mk (below_alloc (Below.refl wr.heap.size wr) (.cells #[.int .i64 a.f0, .int .i64 a.f1, .string a.f2, .slice A9 a.f3.length c9] 29))
        generalize wr.alloc (.cells #[.int .i64 a.f0, .int .i64 a.f1, .string a.f2, .slice A9 a.f3.length c9] 29) = W1 at P1 bw1 ⊢
        clear hx0 hx1 hx2 hx3
        refine (Size_calls g b q L W1 (Bl.kept HBL.out bw1.out) (by omega)).mono ?_
        rintro e w5 ⟨rfl, hb5⟩
        have P5 := Aside0.mk (blk_below P1.out hb5)
        have bw5 := Aside0.mk (bw1.out.trans (hb5.mono bw1.out.size))
        clear hb5
        have a0 : (w5).cell? ⟨wr.heap.size, 0, none⟩ = some (.int .i64 a.f0) := (blk_cell (P5.out) 0).trans rfl
        have a1 : (w5).cell? ⟨wr.heap.size, 1, none⟩ = some (.int .i64 a.f1) := (blk_cell (P5.out) 1).trans rfl
        have a2 : (w5).cell? ⟨wr.heap.size, 2, none⟩ = some (.string a.f2) := (blk_cell (P5.out) 2).trans rfl
        have a3 : (w5).cell? ⟨wr.heap.size, 3, none⟩ = some (.slice A9 a.f3.length c9) := (blk_cell (P5.out) 3).trans rfl
        go_wp2_with fail
        refine (Do_calls g b q L a.f0 a.f1 a.f2 A9 c9 a.f3 w5 (Bl.kept HBL.out bw5.out) (by omega) (by omega) HL9.out (Kd.C_below HI9.out bw5.out)).mono ?_
        rintro e w6 ⟨vb, vn, nm, code, bd, ns, L', rfl, hvb, hvn, hB6, hg6, hD⟩
        obtain ⟨A1, c1, rfl, _, _⟩ := Kd.R_reads hvb
        obtain ⟨A2, c2, rfl, _, _⟩ := Kd.R_reads hvn
        have hlen := hD.len
        obtain ⟨hs1, hs2⟩ := hD.sum HBL.out.apart hsq
        have HB6 := Aside0.mk hB6
        have B6 := Aside0.mk ((HB.out.trans (bw5.out.mono HB.out.size)).grown hg6 (Nat.le_trans HB.out.size bw5.out.size) (fun j hj => by cases hj; exact hbw))
        clear hvb hvn hB6 hg6 hD a0 a1 a2 a3
        generalize bd.length = nb
        generalize ns.length = nn
        go_wp2_with fail
        have R1 := Aside0.mk (blk_new w6 (.cells #[.int .i64 nm, .int .i64 code, .slice A1 nb c1, .slice A2 nn c2] 32))
        have br1 := Aside0.mk (below_alloc (Below.refl w6.heap.size w6) (.cells #[.int .i64 nm, .int .i64 code, .slice A1 nb c1, .slice A2 nn c2] 32))
        generalize w6.alloc (.cells #[.int .i64 nm, .int .i64 code, .slice A1 nb c1, .slice A2 nn c2] 32) = W2 at R1 br1 ⊢
        refine (Size_calls g b q L' W2 (Bl.kept HB6.out br1.out) (by omega)).mono ?_
        rintro e w7 ⟨rfl, hb7⟩
        have br7 := Aside0.mk (br1.out.trans (hb7.mono br1.out.size))
        have r1 : w7.cell? ⟨w6.heap.size, 1, none⟩ = some (.int .i64 code) := (blk_cell (blk_below R1.out hb7) 1).trans rfl
        clear hb7
        have B7 := Aside0.mk (B6.out.trans (br7.out.mono B6.out.size))
        have hd1 : decide (q < (sumE L' : Int)) = false := decide_eq_false (by omega)
        by_cases hc0 : code = 0
        · subst hc0
          go_wp2_with fail
          go_roundg (l.length - (i + 1))
          case measure => have := HK.out; omega
          case rel => exact ⟨i + 1, L', by go_num, by omega, by omega, hs1, ⟨by omega⟩, ⟨Bl.kept HB6.out br7.out⟩, B7⟩
        · have hcb : (code == 0) = false := by simpa using hc0
          have hsame := hs2 hc0
          rw [← hsame]
          go_wp2_with fail
          refine (Size_calls g b q L' w7 (Bl.kept HB6.out br7.out) (by omega)).mono ?_
          rintro e w8 ⟨rfl, hb8⟩
          have br8 := Aside0.mk (br7.out.trans (hb8.mono br7.out.size))
          have B8 := Aside0.mk (B6.out.trans (br8.out.mono B6.out.size))
          clear hb8
          go_wp2_with fail
          go_roundg (l.length - (i + 1))
          case measure => have := HK.out; omega
          case rel => exact ⟨i + 1, L', by go_num, by omega, by omega, hs1, ⟨by omega⟩, ⟨Bl.kept HB6.out br8.out⟩, B8⟩
      · have hil : i = l.length := by omega
        subst hil
        go_wp2_with fail
        go_ret
        exact ⟨rfl, HB.out⟩

theorem wf_u8 {a : Int} (h : (Lit.int .u8 a).wf = true) : 0 ≤ a ∧ a ≤ 255 := by
  simp [Lit.wf, IntKind.min, IntKind.max, IntKind.signed, IntKind.bits] at h
  omega
theorem BlobQuota_row (q : Int) (wq : (Lit.int .u8 q).wf = true) (A : Option Addr) (len cap : Nat) (l : List S29) {P : S29 → Prop} {w : World} (hl : l.length = len) (hC : Kd.C k29 w A len l) (hc : len ≤ cap) (hm : len ≤ maxLen) (hw : ∀ x ∈ l, P x) :
    Calls Try.prog 4 #[.int .u8 q, .slice A len cap] w fun e w' => e = .returned (.bool true) ∧ Below w.heap.size w w' := by
  subst hl
  have h := wf_u8 wq
  exact BlobQuota_walk q h A cap l w hc hC
end Go.Proofs.Ytahiadghodhkhaa.Bl
