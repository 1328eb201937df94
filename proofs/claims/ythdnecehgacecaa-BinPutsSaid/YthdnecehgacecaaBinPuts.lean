/- Whatever is put, one behind the other, is the bytes that the document says, or is refused, and then nothing was put: the walk of the law. -/
import Derived.Test.YthdnecehgacecaaBinTakes
namespace Go.Proofs.Ythdnecehgacecaa.Sb
open Go.RowKit Go.Proofs.YthdnecehgacecaaW.PrintWords Go.Proofs.YthdnecehgacecaaW.PrintLast Go.Proofs.YthdnecehgacecaaW.PrintMore Go.Proofs.Ythdnecehgacecaa.PB
set_option linter.unusedVariables false
set_option linter.unusedSimpArgs false

/-- A row beside a writer's step. -/
theorem R_beside {α : Type} {d : Kd α} {e : Nat} {w w' : World} {b base g : Nat} {v v' u : Value} {xs : List α} {bs' : List Int} (h : d.R e w b (fun k => k ≠ g ∧ some k ≠ v.ownBlock) u xs) (s : WStep w w' base g v v' bs') :
    d.R e w' b (fun k => k ≠ g ∧ some k ≠ v'.ownBlock) u xs := by
  have h1 := Kd.R_step (w1 := w') (Kd.R_bound h) (fun k hk hlt => s.keep.2 k hlt hk.1.1 hk.1.2)
  refine Kd.R_mono h1 (fun k hk => ⟨hk.1.1, fun e => ?_⟩)
  rcases s.at_ with e1 | ⟨b', e1, hb⟩
  · exact hk.1.2 (e.trans e1)
  · rw [e1] at e
    injection e with e
    have := hk.2.2.1
    omega
theorem row_ok {k : IntKind} {e : Nat} {w : World} {base : Nat} {ok ok' : Nat → Prop} {v : Value} {xs : List Int} (h : (Kd.int k).R e w base ok v xs) (h' : ∀ j, v.ownBlock = some j → ok' j) : (Kd.int k).R e w base ok' v xs := ⟨h', h.2.imp_ (fun _ _ hp => hp)⟩

/-- The state of the law's loop: the writer in block g, and all that the reference has told. -/
structure Both (w : World) (base g : Nat) (v u : Value) (bs : List Int) : Prop where
  blk : w.heap[g]? = some (.cells #[v] 34 (0, 0))
  row : Bs.R 5 w base (fun _ => True) v bs
  all : Bs.R 5 w base (fun k => k ≠ g ∧ some k ≠ v.ownBlock) u bs
theorem Both.later {w w' : World} {base g : Nat} {v u : Value} {bs : List Int} (h : Both w base g v u bs) (hb : Below w.heap.size w w') : Both w' base g v u bs := ⟨blk_below h.blk hb, Kd.R_below h.row hb, Kd.R_below h.all hb⟩

set_option maxRecDepth 100000 in
set_option maxHeartbeats 8000000 in
theorem BinPuts_walk (A2 : Option Addr) (len2 cap2 : Nat) (l : List Act) (w : World) (hl2 : l.length = len2) (hC2 : kAct.C w A2 len2 l) (hc2 : len2 ≤ cap2) (_hm2 : len2 ≤ maxLen) (hw2 : ∀ z, z ∈ l → ActWf z) :
    Calls Try.prog 5 #[.slice A2 len2 cap2] w fun e w' => e = .returned (.bool true) ∧ Below w.heap.size w w' := by
  subst hl2
  have HC2 := Aside0.mk hC2
  have HCC2 := Aside0.mk hc2
  have HW2 := Aside0.mk hw2
  clear hC2 _hm2 hw2 hc2
  obtain ⟨lb, hlong, hlf⟩ := long_is l
  have HLG := Aside0.mk hlong
  have HLF := Aside0.mk hlf
  clear hlong hlf
  cases lb with
  | true =>
    go_enter Try.func5, Try.ntmps5
    go_wp2_with fail
    refine (wakes01_calls _).mono ?_
    rintro e w1 ⟨rfl, hb1⟩
    have HB1 := Aside0.mk hb1
    clear hb1
    go_wp2_with fail
    refine (scriniumlaw01_long.calls 200 A2 cap2 l true _ (Kd.C_below HC2.out HB1.out) HCC2.out HLG.out).mono ?_
    rintro e w2 ⟨rfl, ⟨nd, rfl⟩⟩
    go_wp2
    go_ret
    exact ⟨rfl, pw_below_drewN HB1.out _⟩
  | false =>
    obtain ⟨hlen2, hf3⟩ := HLF.out rfl
    have HF3 := Aside0.mk hf3
    clear hf3 HLF
    go_enter Try.func5, Try.ntmps5
    go_wp2_with fail
    refine (wakes01_calls _).mono ?_
    rintro e w1 ⟨rfl, hb1⟩
    have HB1 := Aside0.mk hb1
    clear hb1
    go_wp2_with fail
    refine (scriniumlaw01_long.calls 200 A2 cap2 l false _ (Kd.C_below HC2.out HB1.out) HCC2.out HLG.out).mono ?_
    rintro e w2 ⟨rfl, ⟨nd, rfl⟩⟩
    have hb2 := pw_below_drewN HB1.out nd
    have HB2 := Aside0.mk hb2
    clear hb2
    generalize w1.drewN nd = w2 at HB2
    go_wp2
    go_loopg [4, 17] l.length (fun kq v4 v17 w' => ∃ (i : Nat) (v : Value) (bs : List Int), v17 = .int .i64 i ∧ i ≤ l.length ∧ bs.length ≤ i * 510 ∧ Aside0 (kq + i = l.length) ∧ Aside0 (Both w' w2.heap.size w2.heap.size v v4 bs) ∧ Aside0 (Below w2.heap.size w2 w'))
    case atStart => exact ⟨0, .slice none 0 0, [], rfl, Nat.zero_le _, Nat.zero_le _, ⟨rfl⟩, ⟨blk_new _ _, Kd.R_nil _ _ _ _ _, Kd.R_nil _ _ _ _ _⟩, ⟨below_alloc (Below.refl _ _) _⟩⟩
    case round =>
      obtain ⟨i, v, bs, rfl, hi, hbs, HK, HBO, HB⟩ := hrel
      obtain ⟨A4, c4, rfl⟩ := Kd.R_slice HBO.out.all
      by_cases hlt : i < l.length
      · have hci : (i : Int) < (l.length : Int) := by omega
        have hB0 : Below w.heap.size w wr := HB2.out.trans (HB.out.mono HB2.out.size)
        have HB0 := Aside0.mk hB0
        have hsz : w2.heap.size < wr.heap.size := blk_lt HBO.out.blk
        clear hB0
        obtain ⟨ad, A9, c9, e9, hx0, hx1, hx2, hx3, hl9, hi9⟩ := at_T43 HC2.out i (Int.natCast_nonneg _) hci
        cases e9
        replace hx0 := pw_cell_below HB0.out hx0
        replace hx1 := pw_cell_below HB0.out hx1
        replace hx2 := pw_cell_below HB0.out hx2
        replace hx3 := pw_cell_below HB0.out hx3
        have hf9 := HF3.out i hlt
        generalize hrd : rd_T43 l i = a at hx0 hx1 hx2 hx3 hl9 hi9 hf9
        rw [Int.toNat_natCast] at hx0 hx1 hx2 hx3
        have HI9 := Aside0.mk hi9
        have HL9 := Aside0.mk hl9
        obtain ⟨hf0, hf1, hf2, _⟩ := HW2.out a (by rw [← hrd]; exact rd_mem l i hlt)
        have HF2 := Aside0.mk (wf_u64 hf2)
        clear hf0 hf1 hf2 hi9 hl9 hrd
        by_cases k0 : a.f0 = 0
        · have k0b : (a.f0 == 0) = true := beq_iff_eq.2 k0
          clear k0
          go_wp2_with fail
          generalize hW : wr.alloc (Obj.cells #[Value.int IntKind.i64 a.f0, Value.int IntKind.i64 a.f1, Value.int IntKind.u64 a.f2, Value.slice A9 a.f3.length c9] 43) = W
          have hbW : Below wr.heap.size wr W := by rw [← hW]; exact below_alloc (Below.refl _ _) _
          have hP : W.heap[wr.heap.size]? = some (Obj.cells #[Value.int IntKind.i64 a.f0, Value.int IntKind.i64 a.f1, Value.int IntKind.u64 a.f2, Value.slice A9 a.f3.length c9] 43 (0, 0)) := by rw [← hW]; exact blk_new _ _
          clear hW hx0 hx1 hx2 hx3
          have HBW := Aside0.mk hbW; have HP := Aside0.mk hP
          have HBO1 := Aside0.mk (HBO.out.later hbW)
          clear hbW hP
          refine (Num_calls w2.heap.size w2.heap.size v bs a.f2 a.f1 _ HF2.out.1 HF2.out.2 HBO1.out.blk HBO1.out.row (Nat.le_refl _) (by omega)).mono ?_
          rintro e w6 ⟨rfl, v6, h6⟩
          have hP6 := h6.keep.blk HP.out (by omega) (fun e => by
            have h1 := (Kd.R_bound HBO.out.row).1 wr.heap.size e.symm
            have h2 := h1.2.2.1
            omega)
          have p1 : w6.cell? ⟨wr.heap.size, 1, none⟩ = some (.int .i64 a.f1) := (blk_cell hP6 1).trans rfl
          have p2 : w6.cell? ⟨wr.heap.size, 2, none⟩ = some (.int .u64 a.f2) := (blk_cell hP6 2).trans rfl
          have HA6 := Aside0.mk (R_beside HBO1.out.all h6)
          have H6 := Aside0.mk h6
          have HB6 : Aside0 (Below w2.heap.size w2 w6) := ⟨(HB.out.trans (HBW.out.mono (Nat.le_of_lt hsz))).trans h6.below⟩
          clear h6 hP6
          go_wp2_with fail
          refine (scriniumref01_Num.calls 10 a.f2 a.f1 (numB a.f2 a.f1).1 (numB a.f2 a.f1).2 _ (refNum_is a.f2 a.f1 HF2.out.1 HF2.out.2)).mono ?_
          rintro e w7 ⟨v7, rfl, hv7, hb7⟩
          obtain ⟨A7, c7, rfl⟩ := Kd.R_slice hv7
          have hq := numB_length a.f2 a.f1
          have HV7 := Aside0.mk hv7
          have HK7 := Aside0.mk (blk_below H6.out.blk hb7)
          have HR7 := Aside0.mk (Kd.R_below H6.out.row hb7)
          have HA7 := Aside0.mk (Kd.R_below HA6.out hb7)
          have HB7 : Aside0 (Below w2.heap.size w2 w7) := ⟨HB6.out.trans (hb7.mono HB6.out.size)⟩
          clear hv7 hb7 p1 p2
          have HFR : Aside0 (∀ k, w7.heap.size ≤ k → k ≠ w2.heap.size ∧ some k ≠ v6.ownBlock) := ⟨fun k hk => ⟨by have := blk_lt HK7.out; omega, fun e => by
            have h1 := (Kd.R_bound HR7.out).1 k e.symm
            have h2 := h1.2.2.1
            omega⟩⟩
          go_wp2_with (first | ((with_reducible refine gate_builtin (b := .append) (xs := #[.tmp 68, .tmp 69]) rfl ?_); at_builtin; refine Kd.R_append_row (Value.int .u8) (0 : Int) (h1 := fun _ => rfl) (w0 := w7) w2.heap.size rfl (.tmp 68) (.tmp 69) 32 5 (.int .u8 0) 1 rfl Try.underlying32 info5 rfl (by omega) (.slice A4 bs.length c4) bs ((numB a.f2 a.f1).1) A7 ((numB a.f2 a.f1).1).length c7 (fun k => k ≠ w2.heap.size ∧ some k ≠ v6.ownBlock) rfl rfl ?aF ?aO ?aR ?aB ?aS ?aL ?_; (case aF => exact HFR.out); (case aO => exact HA7.out); (case aR => exact (C_of_R HV7.out).1); (case aB => exact Below.refl _ _); (case aS => exact HB7.out.size); (case aL => omega); intro v8 w8 ho hb hg hat; obtain ⟨A8, c8, rfl⟩ := Kd.R_slice ho; have HO8 := Aside0.mk ho; have HB8 := Aside0.mk hb; have HG8 := Aside0.mk hg; clear ho hb hg hat))
          have hbo8 : Both w8 w2.heap.size w2.heap.size v6 (.slice A8 (bs.length + ((numB a.f2 a.f1).1).length) c8) (bs ++ (numB a.f2 a.f1).1) := by
            have hlen : (bs ++ (numB a.f2 a.f1).1).length = bs.length + ((numB a.f2 a.f1).1).length := by rw [List.length_append]
            have ho := HO8.out
            rw [hlen] at ho
            refine ⟨blk_grown HK7.out HG8.out (Kd.R_ne HA7.out HK7.out (by decide)), ?_, ho⟩
            have hr := Kd.R_grown (row_ok (ok' := fun k => some k ≠ (Value.slice A4 bs.length c4).ownBlock) HR7.out (fun j hj e => (HA7.out.1 j e.symm).2 hj.symm)) HG8.out (fun k h => h)
            exact Kd.R_mono hr (fun _ _ => trivial)
          have HBO8 := Aside0.mk hbo8
          have hz8 : w2.heap.size ≤ w8.heap.size := Nat.le_trans HB7.out.size HB8.out.size
          clear hbo8
          go_wp2_with fail
          refine (Out_calls w2.heap.size w2.heap.size v6 (bs ++ (numB a.f2 a.f1).1) _ HBO8.out.blk HBO8.out.row (by rw [List.length_append]; omega)).mono ?_
          rintro e w9 ⟨u9, rfl, hu9, hb9⟩
          obtain ⟨A10, c10, rfl⟩ := Kd.R_slice hu9
          have HU9 := Aside0.mk hu9; have HB9 := Aside0.mk hb9
          clear hu9 hb9
          have HBO9 := Aside0.mk (HBO8.out.later HB9.out)
          go_wp2_with fail
          have hcu : Bs.C w9 A10 (bs.length + ((numB a.f2 a.f1).1).length) (bs ++ (numB a.f2 a.f1).1) ∧ (bs ++ (numB a.f2 a.f1).1).length = bs.length + ((numB a.f2 a.f1).1).length ∧ bs.length + ((numB a.f2 a.f1).1).length ≤ c10 := by
            have hlen : (bs ++ (numB a.f2 a.f1).1).length = bs.length + ((numB a.f2 a.f1).1).length := by rw [List.length_append]
            have h := C_of_R HU9.out
            rw [hlen] at h
            exact ⟨h.1, hlen, h.2.2⟩
          have HCU := Aside0.mk hcu
          clear hcu
          refine (same_calls_self A10 (bs.length + ((numB a.f2 a.f1).1).length) c10 A8 (bs.length + ((numB a.f2 a.f1).1).length) c8 (bs ++ (numB a.f2 a.f1).1) w9 HCU.out.1 HCU.out.2.1 HCU.out.2.2 (C_of_R HBO9.out.all).1 (C_of_R HBO9.out.all).2.1 (C_of_R HBO9.out.all).2.2 (by omega)).mono ?_
          rintro e w10 ⟨rfl, nd10, rfl⟩
          have HBO10 := Aside0.mk (HBO9.out.later (pw_below_drewN (Below.refl _ _) nd10))
          have HB10 : Aside0 (Below w2.heap.size w2 (w9.drewN nd10)) := ⟨pw_below_drewN ((HB7.out.trans HB8.out).trans (HB9.out.mono hz8)) nd10⟩
          go_wp2
          go_roundg (l.length - (i + 1))
          case measure => have := HK.out; omega
          case rel => exact ⟨i + 1, v6, bs ++ (numB a.f2 a.f1).1, by go_num, by omega, by rw [List.length_append]; omega, ⟨by omega⟩, HBO10, HB10⟩
        by_cases k1 : a.f0 = 1
        · have k1b : (a.f0 == 1) = true := beq_iff_eq.2 k1
          have k0b : (a.f0 == 0) = false := beq_eq_false_iff_ne.2 (by omega)
          clear k1 k0
          go_wp2_with fail
          generalize hW : wr.alloc (Obj.cells #[Value.int IntKind.i64 a.f0, Value.int IntKind.i64 a.f1, Value.int IntKind.u64 a.f2, Value.slice A9 a.f3.length c9] 43) = W
          have hbW : Below wr.heap.size wr W := by rw [← hW]; exact below_alloc (Below.refl _ _) _
          have hP : W.heap[wr.heap.size]? = some (Obj.cells #[Value.int IntKind.i64 a.f0, Value.int IntKind.i64 a.f1, Value.int IntKind.u64 a.f2, Value.slice A9 a.f3.length c9] 43 (0, 0)) := by rw [← hW]; exact blk_new _ _
          clear hW hx0 hx1 hx2 hx3
          have HBW := Aside0.mk hbW; have HP := Aside0.mk hP
          have HBO1 := Aside0.mk (HBO.out.later hbW)
          clear hbW hP
          refine (Small_calls w2.heap.size w2.heap.size v bs a.f2 _ HF2.out.1 HF2.out.2 HBO1.out.blk HBO1.out.row (Nat.le_refl _) (by omega)).mono ?_
          rintro e w6 ⟨rfl, v6, h6⟩
          have hP6 := h6.keep.blk HP.out (by omega) (fun e => by
            have h1 := (Kd.R_bound HBO.out.row).1 wr.heap.size e.symm
            have h2 := h1.2.2.1
            omega)
          have p1 : w6.cell? ⟨wr.heap.size, 1, none⟩ = some (.int .i64 a.f1) := (blk_cell hP6 1).trans rfl
          have p2 : w6.cell? ⟨wr.heap.size, 2, none⟩ = some (.int .u64 a.f2) := (blk_cell hP6 2).trans rfl
          have HA6 := Aside0.mk (R_beside HBO1.out.all h6)
          have H6 := Aside0.mk h6
          have HB6 : Aside0 (Below w2.heap.size w2 w6) := ⟨(HB.out.trans (HBW.out.mono (Nat.le_of_lt hsz))).trans h6.below⟩
          clear h6 hP6
          go_wp2_with fail
          refine (scriniumref01_Small.calls 9 a.f2 (smallB a.f2).1 (smallB a.f2).2 _ (refSmall_is a.f2 HF2.out.1 HF2.out.2)).mono ?_
          rintro e w7 ⟨v7, rfl, hv7, hb7⟩
          obtain ⟨A7, c7, rfl⟩ := Kd.R_slice hv7
          have hq := smallB_length a.f2
          have HV7 := Aside0.mk hv7
          have HK7 := Aside0.mk (blk_below H6.out.blk hb7)
          have HR7 := Aside0.mk (Kd.R_below H6.out.row hb7)
          have HA7 := Aside0.mk (Kd.R_below HA6.out hb7)
          have HB7 : Aside0 (Below w2.heap.size w2 w7) := ⟨HB6.out.trans (hb7.mono HB6.out.size)⟩
          clear hv7 hb7 p1 p2
          have HFR : Aside0 (∀ k, w7.heap.size ≤ k → k ≠ w2.heap.size ∧ some k ≠ v6.ownBlock) := ⟨fun k hk => ⟨by have := blk_lt HK7.out; omega, fun e => by
            have h1 := (Kd.R_bound HR7.out).1 k e.symm
            have h2 := h1.2.2.1
            omega⟩⟩
          go_wp2_with (first | ((with_reducible refine gate_builtin (b := .append) (xs := #[.tmp 68, .tmp 69]) rfl ?_); at_builtin; refine Kd.R_append_row (Value.int .u8) (0 : Int) (h1 := fun _ => rfl) (w0 := w7) w2.heap.size rfl (.tmp 68) (.tmp 69) 32 5 (.int .u8 0) 1 rfl Try.underlying32 info5 rfl (by omega) (.slice A4 bs.length c4) bs ((smallB a.f2).1) A7 ((smallB a.f2).1).length c7 (fun k => k ≠ w2.heap.size ∧ some k ≠ v6.ownBlock) rfl rfl ?aF ?aO ?aR ?aB ?aS ?aL ?_; (case aF => exact HFR.out); (case aO => exact HA7.out); (case aR => exact (C_of_R HV7.out).1); (case aB => exact Below.refl _ _); (case aS => exact HB7.out.size); (case aL => omega); intro v8 w8 ho hb hg hat; obtain ⟨A8, c8, rfl⟩ := Kd.R_slice ho; have HO8 := Aside0.mk ho; have HB8 := Aside0.mk hb; have HG8 := Aside0.mk hg; clear ho hb hg hat))
          have hbo8 : Both w8 w2.heap.size w2.heap.size v6 (.slice A8 (bs.length + ((smallB a.f2).1).length) c8) (bs ++ (smallB a.f2).1) := by
            have hlen : (bs ++ (smallB a.f2).1).length = bs.length + ((smallB a.f2).1).length := by rw [List.length_append]
            have ho := HO8.out
            rw [hlen] at ho
            refine ⟨blk_grown HK7.out HG8.out (Kd.R_ne HA7.out HK7.out (by decide)), ?_, ho⟩
            have hr := Kd.R_grown (row_ok (ok' := fun k => some k ≠ (Value.slice A4 bs.length c4).ownBlock) HR7.out (fun j hj e => (HA7.out.1 j e.symm).2 hj.symm)) HG8.out (fun k h => h)
            exact Kd.R_mono hr (fun _ _ => trivial)
          have HBO8 := Aside0.mk hbo8
          have hz8 : w2.heap.size ≤ w8.heap.size := Nat.le_trans HB7.out.size HB8.out.size
          clear hbo8
          go_wp2_with fail
          refine (Out_calls w2.heap.size w2.heap.size v6 (bs ++ (smallB a.f2).1) _ HBO8.out.blk HBO8.out.row (by rw [List.length_append]; omega)).mono ?_
          rintro e w9 ⟨u9, rfl, hu9, hb9⟩
          obtain ⟨A10, c10, rfl⟩ := Kd.R_slice hu9
          have HU9 := Aside0.mk hu9; have HB9 := Aside0.mk hb9
          clear hu9 hb9
          have HBO9 := Aside0.mk (HBO8.out.later HB9.out)
          go_wp2_with fail
          have hcu : Bs.C w9 A10 (bs.length + ((smallB a.f2).1).length) (bs ++ (smallB a.f2).1) ∧ (bs ++ (smallB a.f2).1).length = bs.length + ((smallB a.f2).1).length ∧ bs.length + ((smallB a.f2).1).length ≤ c10 := by
            have hlen : (bs ++ (smallB a.f2).1).length = bs.length + ((smallB a.f2).1).length := by rw [List.length_append]
            have h := C_of_R HU9.out
            rw [hlen] at h
            exact ⟨h.1, hlen, h.2.2⟩
          have HCU := Aside0.mk hcu
          clear hcu
          refine (same_calls_self A10 (bs.length + ((smallB a.f2).1).length) c10 A8 (bs.length + ((smallB a.f2).1).length) c8 (bs ++ (smallB a.f2).1) w9 HCU.out.1 HCU.out.2.1 HCU.out.2.2 (C_of_R HBO9.out.all).1 (C_of_R HBO9.out.all).2.1 (C_of_R HBO9.out.all).2.2 (by omega)).mono ?_
          rintro e w10 ⟨rfl, nd10, rfl⟩
          have HBO10 := Aside0.mk (HBO9.out.later (pw_below_drewN (Below.refl _ _) nd10))
          have HB10 : Aside0 (Below w2.heap.size w2 (w9.drewN nd10)) := ⟨pw_below_drewN ((HB7.out.trans HB8.out).trans (HB9.out.mono hz8)) nd10⟩
          go_wp2
          go_roundg (l.length - (i + 1))
          case measure => have := HK.out; omega
          case rel => exact ⟨i + 1, v6, bs ++ (smallB a.f2).1, by go_num, by omega, by rw [List.length_append]; omega, ⟨by omega⟩, HBO10, HB10⟩
        by_cases k2 : a.f0 = 2
        · have k2b : (a.f0 == 2) = true := beq_iff_eq.2 k2
          have k0b : (a.f0 == 0) = false := beq_eq_false_iff_ne.2 (by omega)
          have k1b : (a.f0 == 1) = false := beq_eq_false_iff_ne.2 (by omega)
          clear k2 k0 k1
          have hO4 : Bs.R 5 ((wr.alloc (Obj.cells #[Value.int IntKind.i64 a.f0, Value.int IntKind.i64 a.f1, Value.int IntKind.u64 a.f2, Value.slice A9 a.f3.length c9] 43)).alloc (Obj.cells #[] 5)) (wr.heap.size + 1) (fun _ => True) (.slice (some ⟨wr.heap.size + 1, 0, none⟩) 0 0) [] := by
            have h := World.ownsRow_made (wr.alloc (Obj.cells #[Value.int IntKind.i64 a.f0, Value.int IntKind.i64 a.f1, Value.int IntKind.u64 a.f2, Value.slice A9 a.f3.length c9] 43)) #[] 0 (base := wr.heap.size + 1) (e := 5) (size := 1) (by simp) (Nat.zero_le _) rfl
            rw [World.size_alloc] at h
            exact Kd.R_of_own h (fun _ _ => trivial)
          have hB4 : Below (wr.heap.size + 1) (wr.alloc (Obj.cells #[Value.int IntKind.i64 a.f0, Value.int IntKind.i64 a.f1, Value.int IntKind.u64 a.f2, Value.slice A9 a.f3.length c9] 43)) ((wr.alloc (Obj.cells #[Value.int IntKind.i64 a.f0, Value.int IntKind.i64 a.f1, Value.int IntKind.u64 a.f2, Value.slice A9 a.f3.length c9] 43)).alloc (Obj.cells #[] 5)) := (below_alloc (Below.refl _ (wr.alloc (Obj.cells #[Value.int IntKind.i64 a.f0, Value.int IntKind.i64 a.f1, Value.int IntKind.u64 a.f2, Value.slice A9 a.f3.length c9] 43))) (Obj.cells #[] 5)).mono (by rw [World.size_alloc]; omega)
          have hR4 : Bs.C ((wr.alloc (Obj.cells #[Value.int IntKind.i64 a.f0, Value.int IntKind.i64 a.f1, Value.int IntKind.u64 a.f2, Value.slice A9 a.f3.length c9] 43)).alloc (Obj.cells #[] 5)) A9 a.f3.length a.f3 := Kd.C_alloc (Kd.C_alloc (Kd.C_below HI9.out HB0.out) _) _
          have HO4 := Aside0.mk hO4; have HB4 := Aside0.mk hB4; have HR4 := Aside0.mk hR4
          clear hO4 hB4 hR4
          go_wp2_with (first | ((with_reducible refine gate_builtin (b := .append) (xs := #[.tmp 51, .tmp 53]) rfl ?_); at_builtin; refine Kd.R_append_row (Value.int .u8) (0 : Int) (h1 := fun _ => rfl) (w0 := (wr.alloc (Obj.cells #[Value.int IntKind.i64 a.f0, Value.int IntKind.i64 a.f1, Value.int IntKind.u64 a.f2, Value.slice A9 a.f3.length c9] 43))) (wr.heap.size + 1) rfl (.tmp 51) (.tmp 53) 32 5 (.int .u8 0) 1 rfl Try.underlying32 info5 rfl (by omega) (.slice (some ⟨wr.heap.size + 1, 0, none⟩) 0 0) ([] : List Int) a.f3 A9 a.f3.length c9 (fun _ => True) rfl rfl (fun _ _ => trivial) HO4.out HR4.out HB4.out ?aS ?aL ?_; (case aS => rw [World.size_alloc, World.size_alloc]; omega); (case aL => simp; omega); intro v5 w5 ho hb hg hat; simp only [List.nil_append] at ho; obtain ⟨A5, c5, rfl⟩ := Kd.R_slice ho; have HO5 := Aside0.mk ho; have HB5 := Aside0.mk hb; clear ho hb hg hat))
          have hP5 : w5.heap[wr.heap.size]? = some (Obj.cells #[Value.int IntKind.i64 a.f0, Value.int IntKind.i64 a.f1, Value.int IntKind.u64 a.f2, Value.slice A9 a.f3.length c9] 43 (0, 0)) := (HB5.out.block wr.heap.size (by omega)).trans (blk_new _ _)
          have hb5 : Below wr.heap.size wr w5 := (below_alloc (Below.refl _ _) _).trans (HB5.out.mono (by omega))
          have HBO5 := Aside0.mk (HBO.out.later hb5)
          have HP5 := Aside0.mk hP5
          have HBb5 := Aside0.mk hb5
          have hfoot := foot_row (g := w2.heap.size) (v := v) (Kd.R_mono (Kd.R_bound HO5.out) (fun k hk => ⟨by have := hk.2.1; omega, fun e => by
            have h1 := (Kd.R_bound HBO.out.row).1 k e.symm
            have h2 := h1.2.2.1
            have h3 := hk.2.1
            omega⟩))
          have HF5 := Aside0.mk hfoot
          clear hP5 hb5 hfoot hx0 hx1 hx2 hx3
          refine (Text_calls w2.heap.size w2.heap.size v bs A5 a.f3.length c5 a.f3 _ HBO5.out.blk HBO5.out.row (Nat.le_refl _) HF5.out rfl (C_of_R HO5.out).2.2 (by omega)).mono ?_
          rintro e w6 ⟨rfl, v6, h6⟩
          have hP6 := h6.keep.blk HP5.out (by omega) (fun e => by
            have h1 := (Kd.R_bound HBO.out.row).1 wr.heap.size e.symm
            have h2 := h1.2.2.1
            omega)
          have p3 : w6.cell? ⟨wr.heap.size, 3, none⟩ = some (.slice A9 a.f3.length c9) := (blk_cell hP6 3).trans rfl
          have HA6 := Aside0.mk (R_beside HBO5.out.all h6)
          have H6 := Aside0.mk h6
          have HP6 := Aside0.mk hP6
          have HB6 : Aside0 (Below w2.heap.size w2 w6) := ⟨(HB.out.trans (HBb5.out.mono (Nat.le_of_lt hsz))).trans h6.below⟩
          have HB06 : Aside0 (Below w.heap.size w w6) := ⟨HB2.out.trans (HB6.out.mono HB2.out.size)⟩
          have HC56 := Aside0.mk (HF5.out _ h6.keep)
          clear h6 hP6
          go_wp2_with fail
          refine (scriniumref01_Text.calls 9 A9 c9 a.f3 (textB a.f3).1 (textB a.f3).2 _ (Kd.C_below HI9.out HB06.out) HL9.out (refText_is a.f3)).mono ?_
          rintro e w7' ⟨v7, rfl, hv7, hb7⟩
          obtain ⟨A7, c7, rfl⟩ := Kd.R_slice hv7
          have hq := textB_length a.f3
          have HV7' := Aside0.mk hv7
          have HBB7' := Aside0.mk hb7
          have p3' : w7'.cell? ⟨wr.heap.size, 3, none⟩ = some (.slice A9 a.f3.length c9) := (blk_cell (blk_below HP6.out hb7) 3).trans rfl
          clear hv7 hb7 p3
          go_wp2_with fail
          refine (same_calls_self A5 a.f3.length c5 A9 a.f3.length c9 a.f3 w7' (Kd.C_below HC56.out HBB7'.out) rfl (C_of_R HO5.out).2.2 (Kd.C_below HI9.out (HB06.out.trans (HBB7'.out.mono HB06.out.size))) rfl HL9.out (by omega)).mono ?_
          rintro e w7 ⟨rfl, nd7, hw7⟩
          have hb7 : Below w6.heap.size w6 w7 := by rw [hw7]; exact pw_below_drewN HBB7'.out _
          have hv7 : Bs.R 5 w7 w6.heap.size (fun _ => True) (.slice A7 (textB a.f3).1.length c7) (textB a.f3).1 := by rw [hw7]; exact Kd.R_drewN HV7'.out _
          have HV7 := Aside0.mk hv7
          have HK7 := Aside0.mk (blk_below H6.out.blk hb7)
          have HR7 := Aside0.mk (Kd.R_below H6.out.row hb7)
          have HA7 := Aside0.mk (Kd.R_below HA6.out hb7)
          have HB7 : Aside0 (Below w2.heap.size w2 w7) := ⟨HB6.out.trans (hb7.mono HB6.out.size)⟩
          clear hv7 hb7 p3' hw7
          have HFR : Aside0 (∀ k, w7.heap.size ≤ k → k ≠ w2.heap.size ∧ some k ≠ v6.ownBlock) := ⟨fun k hk => ⟨by have := blk_lt HK7.out; omega, fun e => by
            have h1 := (Kd.R_bound HR7.out).1 k e.symm
            have h2 := h1.2.2.1
            omega⟩⟩
          go_wp2_with (first | ((with_reducible refine gate_builtin (b := .append) (xs := #[.tmp 68, .tmp 69]) rfl ?_); at_builtin; refine Kd.R_append_row (Value.int .u8) (0 : Int) (h1 := fun _ => rfl) (w0 := w7) w2.heap.size rfl (.tmp 68) (.tmp 69) 32 5 (.int .u8 0) 1 rfl Try.underlying32 info5 rfl (by omega) (.slice A4 bs.length c4) bs ((textB a.f3).1) A7 ((textB a.f3).1).length c7 (fun k => k ≠ w2.heap.size ∧ some k ≠ v6.ownBlock) rfl rfl ?aF ?aO ?aR ?aB ?aS ?aL ?_; (case aF => exact HFR.out); (case aO => exact HA7.out); (case aR => exact (C_of_R HV7.out).1); (case aB => exact Below.refl _ _); (case aS => exact HB7.out.size); (case aL => omega); intro v8 w8 ho hb hg hat; obtain ⟨A8, c8, rfl⟩ := Kd.R_slice ho; have HO8 := Aside0.mk ho; have HB8 := Aside0.mk hb; have HG8 := Aside0.mk hg; clear ho hb hg hat))
          have hbo8 : Both w8 w2.heap.size w2.heap.size v6 (.slice A8 (bs.length + ((textB a.f3).1).length) c8) (bs ++ (textB a.f3).1) := by
            have hlen : (bs ++ (textB a.f3).1).length = bs.length + ((textB a.f3).1).length := by rw [List.length_append]
            have ho := HO8.out
            rw [hlen] at ho
            refine ⟨blk_grown HK7.out HG8.out (Kd.R_ne HA7.out HK7.out (by decide)), ?_, ho⟩
            have hr := Kd.R_grown (row_ok (ok' := fun k => some k ≠ (Value.slice A4 bs.length c4).ownBlock) HR7.out (fun j hj e => (HA7.out.1 j e.symm).2 hj.symm)) HG8.out (fun k h => h)
            exact Kd.R_mono hr (fun _ _ => trivial)
          have HBO8 := Aside0.mk hbo8
          have hz8 : w2.heap.size ≤ w8.heap.size := Nat.le_trans HB7.out.size HB8.out.size
          clear hbo8
          go_wp2_with fail
          refine (Out_calls w2.heap.size w2.heap.size v6 (bs ++ (textB a.f3).1) _ HBO8.out.blk HBO8.out.row (by rw [List.length_append]; omega)).mono ?_
          rintro e w9 ⟨u9, rfl, hu9, hb9⟩
          obtain ⟨A10, c10, rfl⟩ := Kd.R_slice hu9
          have HU9 := Aside0.mk hu9; have HB9 := Aside0.mk hb9
          clear hu9 hb9
          have HBO9 := Aside0.mk (HBO8.out.later HB9.out)
          go_wp2_with fail
          have hcu : Bs.C w9 A10 (bs.length + ((textB a.f3).1).length) (bs ++ (textB a.f3).1) ∧ (bs ++ (textB a.f3).1).length = bs.length + ((textB a.f3).1).length ∧ bs.length + ((textB a.f3).1).length ≤ c10 := by
            have hlen : (bs ++ (textB a.f3).1).length = bs.length + ((textB a.f3).1).length := by rw [List.length_append]
            have h := C_of_R HU9.out
            rw [hlen] at h
            exact ⟨h.1, hlen, h.2.2⟩
          have HCU := Aside0.mk hcu
          clear hcu
          refine (same_calls_self A10 (bs.length + ((textB a.f3).1).length) c10 A8 (bs.length + ((textB a.f3).1).length) c8 (bs ++ (textB a.f3).1) w9 HCU.out.1 HCU.out.2.1 HCU.out.2.2 (C_of_R HBO9.out.all).1 (C_of_R HBO9.out.all).2.1 (C_of_R HBO9.out.all).2.2 (by omega)).mono ?_
          rintro e w10 ⟨rfl, nd10, rfl⟩
          have HBO10 := Aside0.mk (HBO9.out.later (pw_below_drewN (Below.refl _ _) nd10))
          have HB10 : Aside0 (Below w2.heap.size w2 (w9.drewN nd10)) := ⟨pw_below_drewN ((HB7.out.trans HB8.out).trans (HB9.out.mono hz8)) nd10⟩
          go_wp2
          go_roundg (l.length - (i + 1))
          case measure => have := HK.out; omega
          case rel => exact ⟨i + 1, v6, bs ++ (textB a.f3).1, by go_num, by omega, by rw [List.length_append]; omega, ⟨by omega⟩, HBO10, HB10⟩
        have k0b : (a.f0 == 0) = false := beq_eq_false_iff_ne.2 k0
        have k1b : (a.f0 == 1) = false := beq_eq_false_iff_ne.2 k1
        have k2b : (a.f0 == 2) = false := beq_eq_false_iff_ne.2 k2
        clear k0 k1 k2
        have HX := Aside0.mk (below_alloc (Below.refl wr.heap.size wr) (Obj.cells #[Value.int IntKind.i64 a.f0, Value.int IntKind.i64 a.f1, Value.int IntKind.u64 a.f2, Value.slice A9 a.f3.length c9] 43))
        have HBO1 := Aside0.mk (HBO.out.later HX.out)
        have HFR : Aside0 (∀ k, (wr.alloc (Obj.cells #[Value.int IntKind.i64 a.f0, Value.int IntKind.i64 a.f1, Value.int IntKind.u64 a.f2, Value.slice A9 a.f3.length c9] 43)).heap.size ≤ k → k ≠ w2.heap.size ∧ some k ≠ v.ownBlock) := ⟨fun k hk => ⟨by have := blk_lt HBO1.out.blk; omega, fun e => by
          have h1 := (Kd.R_bound HBO1.out.row).1 k e.symm
          have h2 := h1.2.2.1
          omega⟩⟩
        go_wp2_with (first | ((with_reducible refine gate_builtin (b := .append) (xs := #[.tmp 68, .tmp 69]) rfl ?_); at_builtin; refine Kd.R_append_row (Value.int .u8) (0 : Int) (h1 := fun _ => rfl) (w0 := wr.alloc (Obj.cells #[Value.int IntKind.i64 a.f0, Value.int IntKind.i64 a.f1, Value.int IntKind.u64 a.f2, Value.slice A9 a.f3.length c9] 43)) w2.heap.size rfl (.tmp 68) (.tmp 69) 32 5 (.int .u8 0) 1 rfl Try.underlying32 info5 rfl (by omega) (.slice A4 bs.length c4) bs ([] : List Int) none 0 0 (fun k => k ≠ w2.heap.size ∧ some k ≠ v.ownBlock) rfl rfl HFR.out HBO1.out.all (Kd.C_nil _ _) (Below.refl _ _) ?aS ?aL ?_; (case aS => rw [World.size_alloc]; omega); (case aL => omega); intro v8 w8 ho hb hg hat; rw [List.append_nil] at ho; obtain ⟨A8, c8, rfl⟩ := Kd.R_slice ho; have HO8 := Aside0.mk ho; have HB8 := Aside0.mk hb; have HG8 := Aside0.mk hg; clear ho hb hg hat))
        have hbo8 : Both w8 w2.heap.size w2.heap.size v (.slice A8 bs.length c8) bs := by
          refine ⟨blk_grown HBO1.out.blk HG8.out (Kd.R_ne HBO1.out.all HBO1.out.blk (by decide)), ?_, HO8.out⟩
          have hr := Kd.R_grown (row_ok (ok' := fun k => some k ≠ (Value.slice A4 bs.length c4).ownBlock) HBO1.out.row (fun j hj e => (HBO1.out.all.1 j e.symm).2 hj.symm)) HG8.out (fun k h => h)
          exact Kd.R_mono hr (fun _ _ => trivial)
        have HBO8 := Aside0.mk hbo8
        have HB78 : Aside0 (Below w2.heap.size w2 w8) := ⟨(HB.out.trans (HX.out.mono (Nat.le_of_lt hsz))).trans HB8.out⟩
        clear hbo8
        refine (Out_calls w2.heap.size w2.heap.size v bs _ HBO8.out.blk HBO8.out.row (by omega)).mono ?_
        rintro e w9 ⟨u9, rfl, hu9, hb9⟩
        obtain ⟨A10, c10, rfl⟩ := Kd.R_slice hu9
        have HU9 := Aside0.mk hu9; have HB9 := Aside0.mk hb9
        clear hu9 hb9
        have HBO9 := Aside0.mk (HBO8.out.later HB9.out)
        go_wp2_with fail
        refine (same_calls_self A10 bs.length c10 A8 bs.length c8 bs w9 (C_of_R HU9.out).1 rfl (C_of_R HU9.out).2.2 (C_of_R HBO9.out.all).1 rfl (C_of_R HBO9.out.all).2.2 (by omega)).mono ?_
        rintro e w10 ⟨rfl, nd10, rfl⟩
        have HBO10 := Aside0.mk (HBO9.out.later (pw_below_drewN (Below.refl _ _) nd10))
        have HB10 : Aside0 (Below w2.heap.size w2 (w9.drewN nd10)) := ⟨pw_below_drewN (HB78.out.trans (HB9.out.mono HB78.out.size)) nd10⟩
        go_wp2
        go_roundg (l.length - (i + 1))
        case measure => have := HK.out; omega
        case rel => exact ⟨i + 1, v, bs, by go_num, by omega, by omega, ⟨by omega⟩, HBO10, HB10⟩
      · go_wp2
        go_ret
        exact ⟨rfl, HB2.out.trans (HB.out.mono HB2.out.size)⟩
end Go.Proofs.Ythdnecehgacecaa.Sb
