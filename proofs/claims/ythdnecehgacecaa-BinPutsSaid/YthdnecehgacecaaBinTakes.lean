/- Whatever is taken of any bytes, one behind the other, is what the document says, or refused: the walk of the law. -/
import Derived.Test.YthdnecehgacecaaBinActs
namespace Go.Proofs.Ythdnecehgacecaa.Sb
open Go.RowKit Go.Proofs.YthdnecehgacecaaW.PrintWords Go.Proofs.YthdnecehgacecaaW.PrintLast Go.Proofs.YthdnecehgacecaaW.PrintMore Go.Proofs.Ythdnecehgacecaa.PB
set_option linter.unusedVariables false
set_option linter.unusedSimpArgs false

abbrev kAct := k43
abbrev ActWf (a : Act) : Prop := (Lit.int .i64 a.f0).wf = true ∧ (Lit.int .i64 a.f1).wf = true ∧ (Lit.int .u64 a.f2).wf = true ∧ (a.f3.length ≤ maxLen ∧ ∀ z, z ∈ a.f3 → (Lit.int .u8 z).wf = true)

set_option maxRecDepth 100000 in
set_option maxHeartbeats 8000000 in
theorem BinTakes_walk (A : Option Addr) (len cap : Nat) (b : List Int) (w : World) (hl : b.length = len) (hC : Bs.C w A len b) (hc : len ≤ cap) (_hm : len ≤ maxLen) (hw : ∀ z, z ∈ b → (Lit.int .u8 z).wf = true)
    (A2 : Option Addr) (len2 cap2 : Nat) (l : List Act) (hl2 : l.length = len2) (hC2 : kAct.C w A2 len2 l) (hc2 : len2 ≤ cap2) (_hm2 : len2 ≤ maxLen) (hw2 : ∀ z, z ∈ l → ActWf z) :
    Calls Try.prog 7 #[.slice A len cap, .slice A2 len2 cap2] w fun e w' => e = .returned (.bool true) ∧ Below w.heap.size w w' := by
  subst hl hl2
  have hl : b.length = b.length := rfl
  have hl2 : l.length = l.length := rfl
  have HB0 := Aside0.mk (wf_bytes hw)
  have HC := Aside0.mk hC
  have HL := Aside0.mk hl
  have HCC := Aside0.mk hc
  have HC2 := Aside0.mk hC2
  have HL2 := Aside0.mk hl2
  have HCC2 := Aside0.mk hc2
  have HW2 := Aside0.mk hw2
  clear hC hw hl _hm hC2 hl2 _hm2 hw2 hc2
  obtain ⟨lb, hlong, hlf⟩ := long_is l
  have HLG := Aside0.mk hlong
  have HLF := Aside0.mk hlf
  clear hlong hlf
  cases lb with
  | true =>
    go_enter Try.func7, Try.ntmps7
    go_wp2_with fail
    refine (wakes01_calls _).mono ?_
    rintro e w1 ⟨rfl, hb1⟩
    have HB1 := Aside0.mk hb1
    clear hb1
    go_wp2_with fail
    refine (scriniumlaw01_long.calls 200 A2 cap2 l true _ (Kd.C_below HC2.out HB1.out) HCC2.out HLG.out).mono ?_
    rintro e w2 ⟨rfl, ⟨nd, rfl⟩⟩
    go_wp2
    go_ret
    exact ⟨rfl, pw_below_drewN HB1.out _⟩
  | false =>
    obtain ⟨hlen2, hf3⟩ := HLF.out rfl
    have HF3 := Aside0.mk hf3
    have hlen2' : l.length ≤ 100 := by have := HL2.out; omega
    clear hf3 HLF hlen2
    by_cases c1 : (b.length : Int) > 3000
    · go_enter Try.func7, Try.ntmps7
      go_wp2_with fail
      refine (wakes01_calls _).mono ?_
      rintro e w1 ⟨rfl, hb1⟩
      have HB1 := Aside0.mk hb1
      clear hb1
      go_wp2_with fail
      refine (scriniumlaw01_long.calls 200 A2 cap2 l false _ (Kd.C_below HC2.out HB1.out) HCC2.out HLG.out).mono ?_
      rintro e w2 ⟨rfl, ⟨nd, rfl⟩⟩
      go_wp2
      go_ret
      exact ⟨rfl, pw_below_drewN HB1.out _⟩
    have hlen : b.length ≤ 3000 := by omega
    go_enter Try.func7, Try.ntmps7
    go_wp2_with fail
    refine (wakes01_calls _).mono ?_
    rintro e w1 ⟨rfl, hb1⟩
    have HB1 := Aside0.mk hb1
    clear hb1
    go_wp2_with fail
    refine (scriniumlaw01_long.calls 200 A2 cap2 l false _ (Kd.C_below HC2.out HB1.out) HCC2.out HLG.out).mono ?_
    rintro e w2 ⟨rfl, ⟨nd, rfl⟩⟩
    have hb2 := pw_below_drewN HB1.out nd
    have HB2 := Aside0.mk hb2
    clear hb2
    generalize w1.drewN nd = w2 at HB2
    go_wp2_with (first | ((with_reducible refine gate_builtin (b := .append) (xs := #[.tmp 22, .tmp 23]) rfl ?_); at_builtin; refine Kd.R_append_row (Value.int .u8) (0 : Int) (h1 := fun _ => rfl) (w0 := w2) w2.heap.size rfl (.tmp 22) (.tmp 23) 32 5 (.int .u8 0) 1 rfl Try.underlying32 info5 rfl (by omega) (.slice (some ⟨w2.heap.size, 0, none⟩) 0 0) ([] : List Int) b A b.length cap (fun _ => True) rfl rfl (fun _ _ => trivial) ?aO ?aR ?aB ?aS ?aL ?_; (case aO => exact Kd.R_of_own (World.ownsRow_made w2 #[] 0 (Nat.le_refl _) (Nat.zero_le _) rfl) (fun _ _ => trivial)); (case aR => exact Kd.C_alloc (Kd.C_below HC.out HB2.out) _); (case aB => exact below_alloc (Below.refl _ _) _); (case aS => simp); (case aL => simp; omega); intro v1 w3 ho hb hg hat; simp only [List.nil_append] at ho; obtain ⟨A3, c3, rfl⟩ := Kd.R_slice ho; have HO3 := Aside0.mk ho; have HB3 := Aside0.mk hb; clear ho hb hg hat))
    have hC3 := C_of_R HO3.out
    refine (New_calls A3 b.length c3 b _ hC3.1 rfl hC3.2.2 (by have := HL.out; omega) HB0.out).mono ?_
    rintro e w4 ⟨g, w0, rfl, hR, hb4, hw0⟩
    have HR4 := Aside0.mk hR
    have hb4' : Below w.heap.size w w4 := HB2.out.trans ((HB3.out.mono HB2.out.size).trans (hb4.mono (by have := HB2.out.size; have := HB3.out.size; omega)))
    have HB4 := Aside0.mk hb4'
    have hww : w.heap.size ≤ w0.heap.size := by have := HB2.out.size; have := HB3.out.size; omega
    have HWW := Aside0.mk hww
    clear hR hb4 hb4' hC3 hw0 hww
    go_wp2
    go_loopg [6, 28] l.length (fun kq v6 v28 w' => ∃ (i at_ : Nat), v6 = .int .i64 at_ ∧ v28 = .int .i64 i ∧ i ≤ l.length ∧ at_ ≤ 3000 ∧ Aside0 (kq + i = l.length) ∧ Aside0 (Rd w0 w' g b at_) ∧ Aside0 (Below w.heap.size w w'))
    case atStart => exact ⟨0, 0, rfl, rfl, Nat.zero_le _, Nat.zero_le _, ⟨rfl⟩, HR4, HB4⟩
    case round =>
      obtain ⟨i, at_, rfl, rfl, hi, hat, HK, HR, HB⟩ := hrel
      clear HR4 HB4
      by_cases hlt : i < l.length
      · have hci : (i : Int) < (l.length : Int) := by omega
        obtain ⟨ad, A9, c9, e9, hx0, hx1, hx2, hx3, hl9, hi9⟩ := at_T43 (Kd.C_below HC2.out HB.out) i (Int.natCast_nonneg _) hci
        cases e9
        generalize hrd : rd_T43 l i = a at hx0 hx1 hx2 hx3 hl9 hi9
        rw [Int.toNat_natCast] at hx0 hx1 hx2 hx3
        have HI9 := Aside0.mk hi9
        have HL9 := Aside0.mk hl9
        have HRD := Aside0.mk hrd
        clear hi9 hl9 hrd
        have hG0 : g < wr.heap.size := IsS76.lt HR.out.is
        obtain ⟨hf0, hf1, hf2, hf3⟩ := HW2.out a (by rw [← HRD.out]; exact rd_mem l i hlt)
        have HF1 := Aside0.mk (wf_i64 hf1)
        clear hf0 hf1 hf2 hf3
        have htl : (textR b at_ a.f1).1.length ≤ 3000 := Nat.le_trans (textR_len b at_ a.f1) hlen
        have HTL := Aside0.mk htl
        clear htl
        by_cases k0 : a.f0 = 0
        · have k0b : (a.f0 == 0) = true := beq_iff_eq.2 k0
          clear k0
          go_wp2_with fail
          generalize hW : (wr.alloc (Obj.cells #[Value.int IntKind.i64 a.f0, Value.int IntKind.i64 a.f1, Value.int IntKind.u64 a.f2, Value.slice A9 a.f3.length c9] 43)).alloc (Obj.cells #[Value.int IntKind.u64 0, Value.slice none 0 0, Value.int IntKind.i64 0, Value.int IntKind.i64 0] 58) = W
          have hbW : Below wr.heap.size wr W := by rw [← hW]; exact below_alloc (below_alloc (Below.refl _ _) _) _
          have hP : W.heap[wr.heap.size]? = some (Obj.cells #[Value.int IntKind.i64 a.f0, Value.int IntKind.i64 a.f1, Value.int IntKind.u64 a.f2, Value.slice A9 a.f3.length c9] 43 (0, 0)) := by rw [← hW]; exact blk_alloc (blk_new _ _) _
          have hG : W.heap[wr.heap.size + 1]? = some (Obj.cells #[Value.int IntKind.u64 0, Value.slice none 0 0, Value.int IntKind.i64 0, Value.int IntKind.i64 0] 58 (0, 0)) := by rw [← hW]; have := blk_new (wr.alloc (Obj.cells #[Value.int IntKind.i64 a.f0, Value.int IntKind.i64 a.f1, Value.int IntKind.u64 a.f2, Value.slice A9 a.f3.length c9] 43)) (Obj.cells #[Value.int IntKind.u64 0, Value.slice none 0 0, Value.int IntKind.i64 0, Value.int IntKind.i64 0] 58); simpa using this
          clear hW hx0 hx1 hx2 hx3
          have HBW := Aside0.mk hbW; have HP := Aside0.mk hP; have HG := Aside0.mk hG
          clear hbW hP hG
          refine (RNum_calls g b at_ a.f1 w0 _ (HR.out.later HBW.out)).mono ?_
          rintro e w6 ⟨rfl, hR6, hk6⟩
          have hP6 := hk6.blk HP.out (by omega) (by simp)
          have hG6 := hk6.blk HG.out (by omega) (by simp)
          have HR6 := Aside0.mk hR6; have HK6 := Aside0.mk hk6; have HP6 := Aside0.mk hP6; have HG6 := Aside0.mk hG6
          have p1 : w6.cell? ⟨wr.heap.size, 1, none⟩ = some (.int .i64 a.f1) := (blk_cell hP6 1).trans rfl
          clear hR6 hk6 hP6 hG6
          have hb6 : Below w.heap.size w w6 := (HB.out.trans (HBW.out.mono HB.out.size)).trans ((HR.out.later HBW.out).kept HR6.out HK6.out HWW.out)
          have HB6 := Aside0.mk hb6
          clear hb6
          have hle : at_ + (numR b at_ a.f1).2.1 ≤ b.length := (numR_bd b HB0.out at_ HR.out.le a.f1).2.2
          have HLE := Aside0.mk hle
          clear hle
          go_wp2_with fail
          refine (scriniumref01_TakeNum.calls 10 A cap b at_ a.f1 _ _ _ _ _ (Kd.C_below HC.out HB6.out) HCC.out (TakeNum_is b HB0.out (by omega) at_ HR.out.le a.f1)).mono ?_
          rintro e w7 ⟨v7, rfl, hv7, hb7⟩
          obtain ⟨A7, c7, rfl⟩ := Kd.R_slice hv7
          have hG7 := blk_below HG6.out hb7
          have q0 : w7.cell? ⟨wr.heap.size + 1, 0, none⟩ = some (.int .u64 0) := (blk_cell hG7 0).trans rfl
          have q1 : w7.cell? ⟨wr.heap.size + 1, 1, none⟩ = some (.slice none 0 0) := (blk_cell hG7 1).trans rfl
          have q2 : w7.cell? ⟨wr.heap.size + 1, 2, none⟩ = some (.int .i64 0) := (blk_cell hG7 2).trans rfl
          have q3 : w7.cell? ⟨wr.heap.size + 1, 3, none⟩ = some (.int .i64 0) := (blk_cell hG7 3).trans rfl
          have r0 := blk_frozen hG7 0
          have r1 := blk_frozen hG7 1
          have r2 := blk_frozen hG7 2
          have r3 := blk_frozen hG7 3
          have HV7 := Aside0.mk hv7; have HB7 := Aside0.mk hb7; have HG7 := Aside0.mk hG7
          have HR7 := Aside0.mk (HR6.out.later hb7)
          have HBB7 := Aside0.mk (HB6.out.trans (hb7.mono HB6.out.size))
          have hz7 : wr.heap.size + 1 < w7.heap.size := blk_lt hG7
          clear hv7 hb7 hG7 p1
          have hsl : (numR b at_ a.f1).2.1 ≤ 3000 := by have := HLE.out; omega
          go_wp2_with fail
          generalize hW8 : (((w7.setCell ⟨wr.heap.size + 1, 0, none⟩ (.int .u64 (numR b at_ a.f1).1)).setCell ⟨wr.heap.size + 1, 1, none⟩ (.slice A7 0 c7)).setCell ⟨wr.heap.size + 1, 2, none⟩ (.int .i64 (((numR b at_ a.f1).2.1 : Nat) : Int))).setCell ⟨wr.heap.size + 1, 3, none⟩ (.int .i64 (numR b at_ a.f1).2.2) = W8
          have hG8 : W8.heap[wr.heap.size + 1]? = some (Obj.cells #[.int .u64 (numR b at_ a.f1).1, .slice A7 0 c7, .int .i64 (((numR b at_ a.f1).2.1 : Nat) : Int), .int .i64 (numR b at_ a.f1).2.2] 58 (0, 0)) := by rw [← hW8]; exact blk_put (blk_put (blk_put (blk_put HG7.out 0 _ rfl) 1 _ rfl) 2 _ rfl) 3 _ rfl
          have hR8 : Rd w0 W8 g b (at_ + (numR b at_ a.f1).2.1) := by
            rw [← hW8]
            have hne : g ≠ wr.heap.size + 1 := by omega
            have hle0 : w0.heap.size ≤ wr.heap.size + 1 := by have := HR.out.below.size; omega
            exact (((HR7.out.far (p := ⟨wr.heap.size + 1, 0, none⟩) hne hle0 _).far (p := ⟨wr.heap.size + 1, 1, none⟩) hne hle0 _).far (p := ⟨wr.heap.size + 1, 2, none⟩) hne hle0 _).far (p := ⟨wr.heap.size + 1, 3, none⟩) hne hle0 _
          have hb8 : Below w.heap.size w W8 := by
            rw [← hW8]
            have hle0 : w.heap.size ≤ wr.heap.size + 1 := by have := HB.out.size; omega
            exact (((HBB7.out.setCell (p := ⟨wr.heap.size + 1, 0, none⟩) hle0 _).setCell (p := ⟨wr.heap.size + 1, 1, none⟩) hle0 _).setCell (p := ⟨wr.heap.size + 1, 2, none⟩) hle0 _).setCell (p := ⟨wr.heap.size + 1, 3, none⟩) hle0 _
          have hv8 : Bs.R 5 W8 w6.heap.size (fun _ => True) (.slice A7 0 c7) ([] : List Int) := by
            rw [← hW8]
            exact Kd.R_set (Kd.R_set (Kd.R_set (Kd.R_set HV7.out HG7.out (by decide) 0 _) (blk_put HG7.out 0 _ rfl) (by decide) 1 _) (blk_put (blk_put HG7.out 0 _ rfl) 1 _ rfl) (by decide) 2 _) (blk_put (blk_put (blk_put HG7.out 0 _ rfl) 1 _ rfl) 2 _ rfl) (by decide) 3 _
          clear hW8 q0 q1 q2 q3 r0 r1 r2 r3
          have HR8 := Aside0.mk hR8; have HB8 := Aside0.mk hb8; have HG8 := Aside0.mk hG8; have HV8 := Aside0.mk hv8
          clear hR8 hb8 hG8 hv8
          refine (same_calls_self none 0 0 A7 0 c7 [] W8 (Kd.C_nil _ _) rfl (Nat.le_refl _) (C_of_R HV8.out).1 rfl (Nat.zero_le _) (by omega)).mono ?_
          rintro e w9 ⟨rfl, nd9, rfl⟩
          have hG9 := blk_drewN HG8.out nd9
          have q0 : (W8.drewN nd9).cell? ⟨wr.heap.size + 1, 0, none⟩ = some (.int .u64 (numR b at_ a.f1).1) := (blk_cell hG9 0).trans rfl
          have q1 : (W8.drewN nd9).cell? ⟨wr.heap.size + 1, 1, none⟩ = some (.slice A7 0 c7) := (blk_cell hG9 1).trans rfl
          have q2 : (W8.drewN nd9).cell? ⟨wr.heap.size + 1, 2, none⟩ = some (.int .i64 (((numR b at_ a.f1).2.1 : Nat) : Int)) := (blk_cell hG9 2).trans rfl
          have q3 : (W8.drewN nd9).cell? ⟨wr.heap.size + 1, 3, none⟩ = some (.int .i64 (numR b at_ a.f1).2.2) := (blk_cell hG9 3).trans rfl
          clear hG9
          go_wp2_with fail
          refine (RAt_calls g b (at_ + (numR b at_ a.f1).2.1) w0 _ (HR8.out.later (pw_below_drewN (Below.refl _ _) nd9))).mono ?_
          rintro e w10 ⟨rfl, hR10, hk10⟩
          have HB10 := Aside0.mk ((pw_below_drewN HB8.out nd9).trans ((HR8.out.later (pw_below_drewN (Below.refl _ _) nd9)).kept hR10 hk10 HWW.out))
          have HR10 := Aside0.mk hR10
          clear hR10 hk10
          go_wp2
          go_roundg (l.length - (i + 1))
          case measure => have := HK.out; omega
          case rel => exact ⟨i + 1, at_ + (numR b at_ a.f1).2.1, by go_num, by go_num, by omega, by have := HLE.out; omega, ⟨by omega⟩, HR10, HB10⟩
        by_cases k1 : a.f0 = 1
        · have k1b : (a.f0 == 1) = true := beq_iff_eq.2 k1
          have k0b : (a.f0 == 0) = false := beq_eq_false_iff_ne.2 (by omega)
          clear k1 k0
          go_wp2_with fail
          generalize hW : (wr.alloc (Obj.cells #[Value.int IntKind.i64 a.f0, Value.int IntKind.i64 a.f1, Value.int IntKind.u64 a.f2, Value.slice A9 a.f3.length c9] 43)).alloc (Obj.cells #[Value.int IntKind.u64 0, Value.slice none 0 0, Value.int IntKind.i64 0, Value.int IntKind.i64 0] 58) = W
          have hbW : Below wr.heap.size wr W := by rw [← hW]; exact below_alloc (below_alloc (Below.refl _ _) _) _
          have hP : W.heap[wr.heap.size]? = some (Obj.cells #[Value.int IntKind.i64 a.f0, Value.int IntKind.i64 a.f1, Value.int IntKind.u64 a.f2, Value.slice A9 a.f3.length c9] 43 (0, 0)) := by rw [← hW]; exact blk_alloc (blk_new _ _) _
          have hG : W.heap[wr.heap.size + 1]? = some (Obj.cells #[Value.int IntKind.u64 0, Value.slice none 0 0, Value.int IntKind.i64 0, Value.int IntKind.i64 0] 58 (0, 0)) := by rw [← hW]; have := blk_new (wr.alloc (Obj.cells #[Value.int IntKind.i64 a.f0, Value.int IntKind.i64 a.f1, Value.int IntKind.u64 a.f2, Value.slice A9 a.f3.length c9] 43)) (Obj.cells #[Value.int IntKind.u64 0, Value.slice none 0 0, Value.int IntKind.i64 0, Value.int IntKind.i64 0] 58); simpa using this
          clear hW hx0 hx1 hx2 hx3
          have HBW := Aside0.mk hbW; have HP := Aside0.mk hP; have HG := Aside0.mk hG
          clear hbW hP hG
          refine (RSmall_calls g b at_ a.f2 w0 _ (HR.out.later HBW.out)).mono ?_
          rintro e w6 ⟨rfl, hR6, hk6⟩
          have hP6 := hk6.blk HP.out (by omega) (by simp)
          have hG6 := hk6.blk HG.out (by omega) (by simp)
          have HR6 := Aside0.mk hR6; have HK6 := Aside0.mk hk6; have HP6 := Aside0.mk hP6; have HG6 := Aside0.mk hG6
          have p1 : w6.cell? ⟨wr.heap.size, 2, none⟩ = some (.int .u64 a.f2) := (blk_cell hP6 2).trans rfl
          clear hR6 hk6 hP6 hG6
          have hb6 : Below w.heap.size w w6 := (HB.out.trans (HBW.out.mono HB.out.size)).trans ((HR.out.later HBW.out).kept HR6.out HK6.out HWW.out)
          have HB6 := Aside0.mk hb6
          clear hb6
          have hle : at_ + (smallR b at_ a.f2).2.1 ≤ b.length := (smallR_bd b HB0.out at_ HR.out.le a.f2).2.2.2.1
          have HLE := Aside0.mk hle
          clear hle
          go_wp2_with fail
          refine (scriniumref01_TakeSmall.calls 9 A cap b at_ a.f2 _ _ _ _ _ (Kd.C_below HC.out HB6.out) HCC.out (TakeSmall_is b HB0.out (by omega) at_ HR.out.le a.f2)).mono ?_
          rintro e w7 ⟨v7, rfl, hv7, hb7⟩
          obtain ⟨A7, c7, rfl⟩ := Kd.R_slice hv7
          have hG7 := blk_below HG6.out hb7
          have q0 : w7.cell? ⟨wr.heap.size + 1, 0, none⟩ = some (.int .u64 0) := (blk_cell hG7 0).trans rfl
          have q1 : w7.cell? ⟨wr.heap.size + 1, 1, none⟩ = some (.slice none 0 0) := (blk_cell hG7 1).trans rfl
          have q2 : w7.cell? ⟨wr.heap.size + 1, 2, none⟩ = some (.int .i64 0) := (blk_cell hG7 2).trans rfl
          have q3 : w7.cell? ⟨wr.heap.size + 1, 3, none⟩ = some (.int .i64 0) := (blk_cell hG7 3).trans rfl
          have r0 := blk_frozen hG7 0
          have r1 := blk_frozen hG7 1
          have r2 := blk_frozen hG7 2
          have r3 := blk_frozen hG7 3
          have HV7 := Aside0.mk hv7; have HB7 := Aside0.mk hb7; have HG7 := Aside0.mk hG7
          have HR7 := Aside0.mk (HR6.out.later hb7)
          have HBB7 := Aside0.mk (HB6.out.trans (hb7.mono HB6.out.size))
          have hz7 : wr.heap.size + 1 < w7.heap.size := blk_lt hG7
          clear hv7 hb7 hG7 p1
          have hsl : (smallR b at_ a.f2).2.1 ≤ 3000 := by have := HLE.out; omega
          go_wp2_with fail
          generalize hW8 : (((w7.setCell ⟨wr.heap.size + 1, 0, none⟩ (.int .u64 (smallR b at_ a.f2).1)).setCell ⟨wr.heap.size + 1, 1, none⟩ (.slice A7 0 c7)).setCell ⟨wr.heap.size + 1, 2, none⟩ (.int .i64 (((smallR b at_ a.f2).2.1 : Nat) : Int))).setCell ⟨wr.heap.size + 1, 3, none⟩ (.int .i64 (smallR b at_ a.f2).2.2) = W8
          have hG8 : W8.heap[wr.heap.size + 1]? = some (Obj.cells #[.int .u64 (smallR b at_ a.f2).1, .slice A7 0 c7, .int .i64 (((smallR b at_ a.f2).2.1 : Nat) : Int), .int .i64 (smallR b at_ a.f2).2.2] 58 (0, 0)) := by rw [← hW8]; exact blk_put (blk_put (blk_put (blk_put HG7.out 0 _ rfl) 1 _ rfl) 2 _ rfl) 3 _ rfl
          have hR8 : Rd w0 W8 g b (at_ + (smallR b at_ a.f2).2.1) := by
            rw [← hW8]
            have hne : g ≠ wr.heap.size + 1 := by omega
            have hle0 : w0.heap.size ≤ wr.heap.size + 1 := by have := HR.out.below.size; omega
            exact (((HR7.out.far (p := ⟨wr.heap.size + 1, 0, none⟩) hne hle0 _).far (p := ⟨wr.heap.size + 1, 1, none⟩) hne hle0 _).far (p := ⟨wr.heap.size + 1, 2, none⟩) hne hle0 _).far (p := ⟨wr.heap.size + 1, 3, none⟩) hne hle0 _
          have hb8 : Below w.heap.size w W8 := by
            rw [← hW8]
            have hle0 : w.heap.size ≤ wr.heap.size + 1 := by have := HB.out.size; omega
            exact (((HBB7.out.setCell (p := ⟨wr.heap.size + 1, 0, none⟩) hle0 _).setCell (p := ⟨wr.heap.size + 1, 1, none⟩) hle0 _).setCell (p := ⟨wr.heap.size + 1, 2, none⟩) hle0 _).setCell (p := ⟨wr.heap.size + 1, 3, none⟩) hle0 _
          have hv8 : Bs.R 5 W8 w6.heap.size (fun _ => True) (.slice A7 0 c7) ([] : List Int) := by
            rw [← hW8]
            exact Kd.R_set (Kd.R_set (Kd.R_set (Kd.R_set HV7.out HG7.out (by decide) 0 _) (blk_put HG7.out 0 _ rfl) (by decide) 1 _) (blk_put (blk_put HG7.out 0 _ rfl) 1 _ rfl) (by decide) 2 _) (blk_put (blk_put (blk_put HG7.out 0 _ rfl) 1 _ rfl) 2 _ rfl) (by decide) 3 _
          clear hW8 q0 q1 q2 q3 r0 r1 r2 r3
          have HR8 := Aside0.mk hR8; have HB8 := Aside0.mk hb8; have HG8 := Aside0.mk hG8; have HV8 := Aside0.mk hv8
          clear hR8 hb8 hG8 hv8
          refine (same_calls_self none 0 0 A7 0 c7 [] W8 (Kd.C_nil _ _) rfl (Nat.le_refl _) (C_of_R HV8.out).1 rfl (Nat.zero_le _) (by omega)).mono ?_
          rintro e w9 ⟨rfl, nd9, rfl⟩
          have hG9 := blk_drewN HG8.out nd9
          have q0 : (W8.drewN nd9).cell? ⟨wr.heap.size + 1, 0, none⟩ = some (.int .u64 (smallR b at_ a.f2).1) := (blk_cell hG9 0).trans rfl
          have q1 : (W8.drewN nd9).cell? ⟨wr.heap.size + 1, 1, none⟩ = some (.slice A7 0 c7) := (blk_cell hG9 1).trans rfl
          have q2 : (W8.drewN nd9).cell? ⟨wr.heap.size + 1, 2, none⟩ = some (.int .i64 (((smallR b at_ a.f2).2.1 : Nat) : Int)) := (blk_cell hG9 2).trans rfl
          have q3 : (W8.drewN nd9).cell? ⟨wr.heap.size + 1, 3, none⟩ = some (.int .i64 (smallR b at_ a.f2).2.2) := (blk_cell hG9 3).trans rfl
          clear hG9
          go_wp2_with fail
          refine (RAt_calls g b (at_ + (smallR b at_ a.f2).2.1) w0 _ (HR8.out.later (pw_below_drewN (Below.refl _ _) nd9))).mono ?_
          rintro e w10 ⟨rfl, hR10, hk10⟩
          have HB10 := Aside0.mk ((pw_below_drewN HB8.out nd9).trans ((HR8.out.later (pw_below_drewN (Below.refl _ _) nd9)).kept hR10 hk10 HWW.out))
          have HR10 := Aside0.mk hR10
          clear hR10 hk10
          go_wp2
          go_roundg (l.length - (i + 1))
          case measure => have := HK.out; omega
          case rel => exact ⟨i + 1, at_ + (smallR b at_ a.f2).2.1, by go_num, by go_num, by omega, by have := HLE.out; omega, ⟨by omega⟩, HR10, HB10⟩
        by_cases k2 : a.f0 = 2
        · have k2b : (a.f0 == 2) = true := beq_iff_eq.2 k2
          have k0b : (a.f0 == 0) = false := beq_eq_false_iff_ne.2 (by omega)
          have k1b : (a.f0 == 1) = false := beq_eq_false_iff_ne.2 (by omega)
          clear k2 k0 k1
          go_wp2_with fail
          generalize hW : (wr.alloc (Obj.cells #[Value.int IntKind.i64 a.f0, Value.int IntKind.i64 a.f1, Value.int IntKind.u64 a.f2, Value.slice A9 a.f3.length c9] 43)).alloc (Obj.cells #[Value.int IntKind.u64 0, Value.slice none 0 0, Value.int IntKind.i64 0, Value.int IntKind.i64 0] 58) = W
          have hbW : Below wr.heap.size wr W := by rw [← hW]; exact below_alloc (below_alloc (Below.refl _ _) _) _
          have hP : W.heap[wr.heap.size]? = some (Obj.cells #[Value.int IntKind.i64 a.f0, Value.int IntKind.i64 a.f1, Value.int IntKind.u64 a.f2, Value.slice A9 a.f3.length c9] 43 (0, 0)) := by rw [← hW]; exact blk_alloc (blk_new _ _) _
          have hG : W.heap[wr.heap.size + 1]? = some (Obj.cells #[Value.int IntKind.u64 0, Value.slice none 0 0, Value.int IntKind.i64 0, Value.int IntKind.i64 0] 58 (0, 0)) := by rw [← hW]; have := blk_new (wr.alloc (Obj.cells #[Value.int IntKind.i64 a.f0, Value.int IntKind.i64 a.f1, Value.int IntKind.u64 a.f2, Value.slice A9 a.f3.length c9] 43)) (Obj.cells #[Value.int IntKind.u64 0, Value.slice none 0 0, Value.int IntKind.i64 0, Value.int IntKind.i64 0] 58); simpa using this
          clear hW hx0 hx1 hx2 hx3
          have HBW := Aside0.mk hbW; have HP := Aside0.mk hP; have HG := Aside0.mk hG
          clear hbW hP hG
          refine (RText_calls g b at_ a.f1 w0 _ (HR.out.later HBW.out) HF1.out.1 HF1.out.2).mono ?_
          rintro e w6 ⟨u6, rfl, hu6, hR6, hk6⟩
          obtain ⟨A6, c6, rfl⟩ := Kd.R_slice hu6
          have HU6 := Aside0.mk hu6
          clear hu6
          have hP6 := hk6.blk HP.out (by omega) (by simp)
          have hG6 := hk6.blk HG.out (by omega) (by simp)
          have HR6 := Aside0.mk hR6; have HK6 := Aside0.mk hk6; have HP6 := Aside0.mk hP6; have HG6 := Aside0.mk hG6
          have p1 : w6.cell? ⟨wr.heap.size, 1, none⟩ = some (.int .i64 a.f1) := (blk_cell hP6 1).trans rfl
          clear hR6 hk6 hP6 hG6
          have hb6 : Below w.heap.size w w6 := (HB.out.trans (HBW.out.mono HB.out.size)).trans ((HR.out.later HBW.out).kept HR6.out HK6.out HWW.out)
          have HB6 := Aside0.mk hb6
          clear hb6
          have hle : at_ + (textR b at_ a.f1).2.1 ≤ b.length := HR6.out.le
          have HLE := Aside0.mk hle
          clear hle
          go_wp2_with fail
          refine (scriniumref01_TakeText.calls 10 A cap b at_ a.f1 _ _ _ _ _ (Kd.C_below HC.out HB6.out) HCC.out (TakeText_is b HB0.out hlen at_ HR.out.le a.f1 HF1.out.2)).mono ?_
          rintro e w7 ⟨v7, rfl, hv7, hb7⟩
          obtain ⟨A7, c7, rfl⟩ := Kd.R_slice hv7
          have hG7 := blk_below HG6.out hb7
          have q0 : w7.cell? ⟨wr.heap.size + 1, 0, none⟩ = some (.int .u64 0) := (blk_cell hG7 0).trans rfl
          have q1 : w7.cell? ⟨wr.heap.size + 1, 1, none⟩ = some (.slice none 0 0) := (blk_cell hG7 1).trans rfl
          have q2 : w7.cell? ⟨wr.heap.size + 1, 2, none⟩ = some (.int .i64 0) := (blk_cell hG7 2).trans rfl
          have q3 : w7.cell? ⟨wr.heap.size + 1, 3, none⟩ = some (.int .i64 0) := (blk_cell hG7 3).trans rfl
          have r0 := blk_frozen hG7 0
          have r1 := blk_frozen hG7 1
          have r2 := blk_frozen hG7 2
          have r3 := blk_frozen hG7 3
          have HV7 := Aside0.mk hv7; have HB7 := Aside0.mk hb7; have HG7 := Aside0.mk hG7
          have HR7 := Aside0.mk (HR6.out.later hb7)
          have HU7 := Aside0.mk (Kd.R_below HU6.out hb7)
          have HBB7 := Aside0.mk (HB6.out.trans (hb7.mono HB6.out.size))
          have hz7 : wr.heap.size + 1 < w7.heap.size := blk_lt hG7
          clear hv7 hb7 hG7 p1
          have hsl : (textR b at_ a.f1).2.1 ≤ 3000 := by have := HLE.out; omega
          go_wp2_with fail
          generalize hW8 : (((w7.setCell ⟨wr.heap.size + 1, 0, none⟩ (.int .u64 0)).setCell ⟨wr.heap.size + 1, 1, none⟩ (.slice A7 (textR b at_ a.f1).1.length c7)).setCell ⟨wr.heap.size + 1, 2, none⟩ (.int .i64 (((textR b at_ a.f1).2.1 : Nat) : Int))).setCell ⟨wr.heap.size + 1, 3, none⟩ (.int .i64 (textR b at_ a.f1).2.2) = W8
          have hG8 : W8.heap[wr.heap.size + 1]? = some (Obj.cells #[.int .u64 0, .slice A7 (textR b at_ a.f1).1.length c7, .int .i64 (((textR b at_ a.f1).2.1 : Nat) : Int), .int .i64 (textR b at_ a.f1).2.2] 58 (0, 0)) := by rw [← hW8]; exact blk_put (blk_put (blk_put (blk_put HG7.out 0 _ rfl) 1 _ rfl) 2 _ rfl) 3 _ rfl
          have hR8 : Rd w0 W8 g b (at_ + (textR b at_ a.f1).2.1) := by
            rw [← hW8]
            have hne : g ≠ wr.heap.size + 1 := by omega
            have hle0 : w0.heap.size ≤ wr.heap.size + 1 := by have := HR.out.below.size; omega
            exact (((HR7.out.far (p := ⟨wr.heap.size + 1, 0, none⟩) hne hle0 _).far (p := ⟨wr.heap.size + 1, 1, none⟩) hne hle0 _).far (p := ⟨wr.heap.size + 1, 2, none⟩) hne hle0 _).far (p := ⟨wr.heap.size + 1, 3, none⟩) hne hle0 _
          have hb8 : Below w.heap.size w W8 := by
            rw [← hW8]
            have hle0 : w.heap.size ≤ wr.heap.size + 1 := by have := HB.out.size; omega
            exact (((HBB7.out.setCell (p := ⟨wr.heap.size + 1, 0, none⟩) hle0 _).setCell (p := ⟨wr.heap.size + 1, 1, none⟩) hle0 _).setCell (p := ⟨wr.heap.size + 1, 2, none⟩) hle0 _).setCell (p := ⟨wr.heap.size + 1, 3, none⟩) hle0 _
          have hv8 : Bs.R 5 W8 w6.heap.size (fun _ => True) (.slice A7 (textR b at_ a.f1).1.length c7) (textR b at_ a.f1).1 := by
            rw [← hW8]
            exact Kd.R_set (Kd.R_set (Kd.R_set (Kd.R_set HV7.out HG7.out (by decide) 0 _) (blk_put HG7.out 0 _ rfl) (by decide) 1 _) (blk_put (blk_put HG7.out 0 _ rfl) 1 _ rfl) (by decide) 2 _) (blk_put (blk_put (blk_put HG7.out 0 _ rfl) 1 _ rfl) 2 _ rfl) (by decide) 3 _
          have hu8 : Bs.R 5 W8 W.heap.size (fun _ => True) (.slice A6 (textR b at_ a.f1).1.length c6) (textR b at_ a.f1).1 := by
            rw [← hW8]
            exact Kd.R_set (Kd.R_set (Kd.R_set (Kd.R_set HU7.out HG7.out (by decide) 0 _) (blk_put HG7.out 0 _ rfl) (by decide) 1 _) (blk_put (blk_put HG7.out 0 _ rfl) 1 _ rfl) (by decide) 2 _) (blk_put (blk_put (blk_put HG7.out 0 _ rfl) 1 _ rfl) 2 _ rfl) (by decide) 3 _
          clear hW8 q0 q1 q2 q3 r0 r1 r2 r3
          have HR8 := Aside0.mk hR8; have HB8 := Aside0.mk hb8; have HG8 := Aside0.mk hG8; have HV8 := Aside0.mk hv8
          have HU8 := Aside0.mk hu8
          clear hu8
          clear hR8 hb8 hG8 hv8
          refine (same_calls_self A6 _ c6 A7 _ c7 (textR b at_ a.f1).1 W8 (C_of_R HU8.out).1 rfl (C_of_R HU8.out).2.2 (C_of_R HV8.out).1 rfl (C_of_R HV8.out).2.2 (by have := HTL.out; omega)).mono ?_
          rintro e w9 ⟨rfl, nd9, rfl⟩
          have hG9 := blk_drewN HG8.out nd9
          have q0 : (W8.drewN nd9).cell? ⟨wr.heap.size + 1, 0, none⟩ = some (.int .u64 0) := (blk_cell hG9 0).trans rfl
          have q1 : (W8.drewN nd9).cell? ⟨wr.heap.size + 1, 1, none⟩ = some (.slice A7 (textR b at_ a.f1).1.length c7) := (blk_cell hG9 1).trans rfl
          have q2 : (W8.drewN nd9).cell? ⟨wr.heap.size + 1, 2, none⟩ = some (.int .i64 (((textR b at_ a.f1).2.1 : Nat) : Int)) := (blk_cell hG9 2).trans rfl
          have q3 : (W8.drewN nd9).cell? ⟨wr.heap.size + 1, 3, none⟩ = some (.int .i64 (textR b at_ a.f1).2.2) := (blk_cell hG9 3).trans rfl
          clear hG9
          go_wp2_with fail
          refine (RAt_calls g b (at_ + (textR b at_ a.f1).2.1) w0 _ (HR8.out.later (pw_below_drewN (Below.refl _ _) nd9))).mono ?_
          rintro e w10 ⟨rfl, hR10, hk10⟩
          have HB10 := Aside0.mk ((pw_below_drewN HB8.out nd9).trans ((HR8.out.later (pw_below_drewN (Below.refl _ _) nd9)).kept hR10 hk10 HWW.out))
          have HR10 := Aside0.mk hR10
          clear hR10 hk10
          go_wp2
          go_roundg (l.length - (i + 1))
          case measure => have := HK.out; omega
          case rel => exact ⟨i + 1, at_ + (textR b at_ a.f1).2.1, by go_num, by go_num, by omega, by have := HLE.out; omega, ⟨by omega⟩, HR10, HB10⟩
        have k0b : (a.f0 == 0) = false := beq_eq_false_iff_ne.2 k0
        have k1b : (a.f0 == 1) = false := beq_eq_false_iff_ne.2 k1
        have k2b : (a.f0 == 2) = false := beq_eq_false_iff_ne.2 k2
        clear k0 k1 k2
        go_wp2_with fail
        generalize hW : (wr.alloc (Obj.cells #[Value.int IntKind.i64 a.f0, Value.int IntKind.i64 a.f1, Value.int IntKind.u64 a.f2, Value.slice A9 a.f3.length c9] 43)).alloc (Obj.cells #[Value.int IntKind.u64 0, Value.slice none 0 0, Value.int IntKind.i64 0, Value.int IntKind.i64 0] 58) = W
        have hbW : Below wr.heap.size wr W := by rw [← hW]; exact below_alloc (below_alloc (Below.refl _ _) _) _
        have hG : W.heap[wr.heap.size + 1]? = some (Obj.cells #[Value.int IntKind.u64 0, Value.slice none 0 0, Value.int IntKind.i64 0, Value.int IntKind.i64 0] 58 (0, 0)) := by rw [← hW]; have := blk_new (wr.alloc (Obj.cells #[Value.int IntKind.i64 a.f0, Value.int IntKind.i64 a.f1, Value.int IntKind.u64 a.f2, Value.slice A9 a.f3.length c9] 43)) (Obj.cells #[Value.int IntKind.u64 0, Value.slice none 0 0, Value.int IntKind.i64 0, Value.int IntKind.i64 0] 58); simpa using this
        clear hW hx0 hx1 hx2 hx3
        have HBW := Aside0.mk hbW; have HG := Aside0.mk hG
        clear hbW hG
        refine (same_calls_self none 0 0 none 0 0 [] W (Kd.C_nil _ _) rfl (Nat.le_refl _) (Kd.C_nil _ _) rfl (Nat.le_refl _) (by omega)).mono ?_
        rintro e w9 ⟨rfl, nd9, rfl⟩
        have hG9 := blk_drewN HG.out nd9
        have q3 : (W.drewN nd9).cell? ⟨wr.heap.size + 1, 3, none⟩ = some (.int .i64 0) := (blk_cell hG9 3).trans rfl
        clear hG9
        go_wp2_with fail
        have HR8 := Aside0.mk ((HR.out.later HBW.out).later (pw_below_drewN (Below.refl _ _) nd9))
        refine (RAt_calls g b at_ w0 _ HR8.out).mono ?_
        rintro e w10 ⟨rfl, hR10, hk10⟩
        have HB10 := Aside0.mk ((pw_below_drewN (HB.out.trans (HBW.out.mono HB.out.size)) nd9).trans (HR8.out.kept hR10 hk10 HWW.out))
        have HR10 := Aside0.mk hR10
        clear hR10 hk10
        go_wp2
        go_roundg (l.length - (i + 1))
        case measure => have := HK.out; omega
        case rel => exact ⟨i + 1, at_, by go_num, rfl, by omega, hat, ⟨by omega⟩, HR10, HB10⟩
      · have hci : decide ((i : Int) < (l.length : Int)) = false := decide_eq_false (by omega)
        have hcn : decide (i < l.length) = false := decide_eq_false (by omega)
        clear hlt
        by_cases hend : b.length = at_
        · have hE : Aside0 (endR b at_ = 0) := ⟨by unfold endR; rw [if_pos hend]⟩
          have hb1 : ((at_ : Int) == (b.length : Int)) = true := by rw [hend]; simp
          have hb2 : (at_ == b.length) = true := by rw [hend]; simp
          clear hend
          go_wp2_with fail
          refine (REnd_calls g b at_ w0 _ HR.out).mono ?_
          rw [hE.out]
          rintro e w10 ⟨rfl, hR10, hk10⟩
          have HB10 := Aside0.mk (HB.out.trans (HR.out.kept hR10 hk10 HWW.out))
          clear hR10 hk10
          go_wp2
          go_ret
          exact ⟨by first | rfl | simp [hb1, hb2], HB10.out⟩
        · have hE : Aside0 (endR b at_ = 2) := ⟨by unfold endR; rw [if_neg hend]⟩
          have hb1 : ((at_ : Int) == (b.length : Int)) = false := beq_eq_false_iff_ne.2 (by omega)
          have hb2 : (at_ == b.length) = false := beq_eq_false_iff_ne.2 (by omega)
          clear hend
          go_wp2_with fail
          refine (REnd_calls g b at_ w0 _ HR.out).mono ?_
          rw [hE.out]
          rintro e w10 ⟨rfl, hR10, hk10⟩
          have HB10 := Aside0.mk (HB.out.trans (HR.out.kept hR10 hk10 HWW.out))
          clear hR10 hk10
          go_wp2
          go_ret
          exact ⟨by first | rfl | simp [hb1, hb2], HB10.out⟩
end Go.Proofs.Ythdnecehgacecaa.Sb
