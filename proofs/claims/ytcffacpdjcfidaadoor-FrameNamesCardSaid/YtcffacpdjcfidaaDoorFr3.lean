/- frame: the walk of the document's Name. -/
import Derived.Test.YtcffacpdjcfidaaDoorFr2
namespace Go.Proofs.YtcffacpdjcfidaaDoor.Fr
open Go.Lib Go.RowKit Go.Proofs.YtcffacpdjcfidaaDoorW.PrintWords Go.Proofs.YtcffacpdjcfidaaDoorW.PrintLast Go.Proofs.YtcffacpdjcfidaaDoorW.PrintMore Go.Proofs.YtcffacpdjcfidaaDoor.PF
set_option linter.unusedVariables false
set_option linter.unusedSimpArgs false

/-! ### Decimal -/
theorem ba_app (a b : List UInt8) : ((⟨a.toArray⟩ : ByteArray) ++ ⟨b.toArray⟩ : ByteArray) = ⟨(a ++ b).toArray⟩ := by
  have h : ((⟨a.toArray⟩ : ByteArray) ++ ⟨b.toArray⟩ : ByteArray).data = (a ++ b).toArray := by rw [ByteArray.data_append]; simp
  generalize ((⟨a.toArray⟩ : ByteArray) ++ ⟨b.toArray⟩ : ByteArray) = x at h
  cases x
  simp only at h
  rw [h]
theorem ba_size (a : List UInt8) : (⟨a.toArray⟩ : ByteArray).size = a.length := by show a.toArray.size = _; simp
theorem one_str (x : Nat) (h : x < 256) : strOfNums [(x : Int)] = ⟨[UInt8.ofNat x].toArray⟩ := by simp [strOfNums]
theorem u64_id (x : Int) (h0 : 0 ≤ x) (h1 : x < 18446744073709551616) : IntKind.u64.wrap x = x := by rw [IntKind.wrap_u64]; omega

theorem dec_loop (h : List UInt8) (hh : h.length ≤ 10) : ∀ (m k u : Nat) (o : List UInt8), u < 10 ^ m → m ≤ 20 → 1 ≤ m → u < 18446744073709551616 → m < k → o.length + m ≤ 100 →
    scriniumref13_Decimal.l0 k (u : Int) ⟨h.toArray⟩ ⟨o.toArray⟩ = some ⟨(h ++ decDigits u ++ o).toArray⟩ := by
  intro m
  induction m with
  | zero => intro k u o h1 h2 h3; omega
  | succ m ih =>
    intro k u o h1 h2 h3 h4 hk ho
    obtain ⟨k, rfl⟩ : ∃ j, k = j + 1 := ⟨k - 1, by omega⟩
    have hb : u < 18446744073709551616 := h4
    unfold scriniumref13_Decimal.l0
    by_cases c : u < 10
    · rw [if_neg (by omega)]
      have e : (IntKind.u64.wrap (48 + (u : Int))) % 256 = ((48 + u : Nat) : Int) := by rw [u64_id _ (by omega) (by omega)]; omega
      simp only [Option.bind_some]
      rw [e, one_str (48 + u) (by omega), ba_app, ba_app, ba_size, ba_size, ba_size, ba_size, if_pos (by simp only [List.length_cons, List.length_nil]; omega), if_pos (by simp only [List.length_append, List.length_cons, List.length_nil]; omega), dec_small c]
    · rw [if_pos (by omega)]
      have e : (IntKind.u64.wrap (48 + (Int.tmod (u : Int) 10))) % 256 = ((48 + u % 10 : Nat) : Int) := by
        rw [Int.tmod_eq_emod_of_nonneg (by omega), u64_id _ (by omega) (by omega)]; omega
      have e2 : IntKind.u64.wrap (Int.tdiv (u : Int) 10) = ((u / 10 : Nat) : Int) := by
        rw [Int.tdiv_eq_ediv_of_nonneg (by omega), u64_id _ (by omega) (by omega)]; omega
      simp only [Option.bind_some]
      have hm : 1 ≤ m := by
        rcases Nat.eq_zero_or_pos m with h | h
        · subst h; simp at h1; omega
        · exact h
      have hp : 10 ^ (m + 1) = 10 * 10 ^ m := by rw [Nat.pow_succ]; omega
      rw [e, e2, one_str (48 + u % 10) (by omega), ba_app, ba_size, ba_size, if_pos (by simp only [List.length_cons, List.length_nil]; omega), ih k (u / 10) _ (by omega) (by omega) hm (by omega) (by omega) (by simp only [List.length_append, List.length_cons, List.length_nil]; omega), dec_big c]
      congr 3
      simp

theorem Decimal_is (n : Int) (h0 : -9223372036854775808 ≤ n) (h1 : n ≤ 9223372036854775807) : scriniumref13_Decimal.f 30 n = some ⟨(itoa n).toArray⟩ := by
  unfold scriniumref13_Decimal.f itoa
  have key : ∀ (u : Nat) (h : List UInt8), h.length ≤ 10 → u < 18446744073709551616 → scriniumref13_Decimal.j0 30 (u : Int) ⟨h.toArray⟩ = some ⟨(h ++ decDigits u).toArray⟩ := by
    intro u h hh hu
    have := dec_loop h hh 20 29 u [] (by omega) (by omega) (by omega) hu (by omega) (by simp)
    rw [List.append_nil] at this
    exact this
  by_cases c : n < 0
  · rw [if_pos c, if_pos c]
    have e : IntKind.u64.wrap (-(IntKind.u64.wrap n)) = ((n.natAbs : Nat) : Int) := by rw [IntKind.wrap_u64, IntKind.wrap_u64]; omega
    rw [e]
    exact key n.natAbs [45] (by decide) (by omega)
  · rw [if_neg c, if_neg c]
    have e : IntKind.u64.wrap n = ((n.toNat : Nat) : Int) := by rw [IntKind.wrap_u64]; omega
    rw [e]
    exact key n.toNat [] (by decide) (by omega)
theorem decimal_calls (n : Int) (w : World) (hn : -9223372036854775808 ≤ n ∧ n ≤ 9223372036854775807) :
    Calls Tryd.prog 8 #[.int .i64 n] w fun e w' => e = .returned (.string ⟨(Lib.itoa n).toArray⟩) ∧ Below w.heap.size w w' :=
  scriniumref13_Decimal.calls 30 n _ w (Decimal_is n hn.1 hn.2)

set_option maxHeartbeats 8000000 in
set_option maxRecDepth 1000000 in
theorem refName_calls (l : List Int) (n : Int) (hl : l.length = 16) (hb : Bytes l) (h0 : -9223372036854775808 ≤ n) (h1 : n ≤ 9223372036854775807) (w : World) :
    Calls Tryd.prog 6 #[.agg (u8s l), .int .i64 n] w fun e w' => e = .returned (.string (strOfNums (102 :: hexI l ++ [46]) ++ ⟨(Lib.itoa n).toArray⟩)) ∧ Below w.heap.size w w' := by
  have HN := Aside0.mk (show -9223372036854775808 ≤ n ∧ n ≤ 9223372036854775807 from ⟨h0, h1⟩)
  have HB0 := Aside0.mk hb
  clear h0 h1 hb
  have B0 : Below w.heap.size w (w.alloc (Obj.cells (u8s l) 23)) := (Below.refl _ _).alloc (Nat.le_refl _) _
  have HB00 := Aside0.mk B0
  have HR00 := Aside0.mk (show (Kd.int .u8).R 5 (w.alloc (Obj.cells (u8s l) 23)) w.heap.size (fun _ => True) (.slice none 0 0) [] from Kd.R_nil _ _ _ _ _)
  have HK00 := Aside0.mk (Bk.new w 23 l)
  clear B0
  go_enter Tryd.func6, Tryd.ntmps6
  go_wp2_with (first | ((with_reducible refine gate_builtin (b := .append) (xs := #[.tmp 9, .tmp 10]) rfl ?_); at_builtin; refine Kd.R_append_row (Value.int .u8) (0 : Int) (h1 := fun _ => rfl) (w0 := w) w.heap.size rfl (.tmp 9) (.tmp 10) 28 5 (.int .u8 0) 1 rfl Tryd.underlying28 info5 rfl (by omega) _ ([] : List Int) [102] _ 1 1 (fun _ => True) rfl rfl (fun _ _ => trivial) ?aO ?aR ?aB ?aS ?aL ?_; (case aO => exact Kd.R_alloc HR00.out (.cells #[.int .u8 102] 5)); (case aR => have hz := lit1_C (w.alloc (Obj.cells (u8s l) 23)) 102; rw [alloc_size] at hz; exact hz); (case aB => exact (below_step HB00.out (below_alloc (Below.refl _ _) (.cells #[.int .u8 102] 5)))); (case aS => exact (below_step HB00.out (below_alloc (Below.refl _ _) (.cells #[.int .u8 102] 5))).size); (case aL => simp); intro v1 w1 hr1 hb1 hg1 hat1; have HR1 := Aside0.mk (show (Kd.int .u8).R 5 w1 w.heap.size (fun _ => True) v1 (([] : List Int) ++ [102]) from hr1); have HB1 := Aside0.mk hb1; have HK1 := Aside0.mk (blk_grown (Bk.alloc HK00.out (.cells #[.int .u8 102] 5)) hg1 (Kd.R_ne (Kd.R_alloc HR00.out (.cells #[.int .u8 102] 5)) (Bk.alloc HK00.out (.cells #[.int .u8 102] 5)) (by decide))); clear hr1 hb1 hg1 hat1))
  go_loopg [5, 6] 16 (fun g vo vi wx => ∃ i : Nat, i + g = 16 ∧ vi = .int .i64 i ∧ (Kd.int .u8).R 5 wx w.heap.size (fun _ => True) vo (102 :: hexI (l.take i)) ∧ Bk wx w.heap.size 23 l ∧ Below w.heap.size w wx)
  case atStart => exact ⟨0, rfl, rfl, HR1.out, HK1.out, HB1.out⟩
  case round =>
    clear HR1 HK1 HB1 HR00 HK00 HB00
    obtain ⟨i, hg, rfl, hR, hK_, hbw⟩ := hrel
    have HR := Aside0.mk hR; have HB := Aside0.mk hbw; have HK := Aside0.mk hK_
    clear hR hbw hK_
    by_cases hi : i < 16
    rotate_left
    · have hii : ¬ (i : Int) < 16 := by omega
      have hr := HR.out
      rw [List.take_of_length_le (l := l) (i := i) (by omega)] at hr
      have HR3 := Aside0.mk hr
      clear hr HR
      go_wp2_with (first | ((with_reducible refine gate_builtin (b := .append) (xs := #[.tmp 42, .tmp 43]) rfl ?_); at_builtin; refine Kd.R_append_row (Value.int .u8) (0 : Int) (h1 := fun _ => rfl) (w0 := w) w.heap.size rfl (.tmp 42) (.tmp 43) 28 5 (.int .u8 0) 1 rfl Tryd.underlying28 info5 rfl (by omega) _ (102 :: hexI l) [46] _ 1 1 (fun _ => True) rfl rfl (fun _ _ => trivial) ?aO ?aR ?aB ?aS ?aL ?_; (case aO => exact Kd.R_alloc HR3.out (.cells #[.int .u8 46] 5)); (case aR => exact lit1_C _ _); (case aB => exact (below_step HB.out (below_alloc (Below.refl _ _) (.cells #[.int .u8 46] 5)))); (case aS => exact (below_step HB.out (below_alloc (Below.refl _ _) (.cells #[.int .u8 46] 5))).size); (case aL => simp only [List.length_append, List.length_cons, List.length_nil, hexI_length, List.length_take]; omega); intro v1 w1 hr1 hb1 hg1 hat1; have HR1 := Aside0.mk (show (Kd.int .u8).R 5 w1 w.heap.size (fun _ => True) v1 ((102 :: hexI l) ++ [46]) from hr1); have HB1 := Aside0.mk hb1; have HK1 := Aside0.mk (blk_grown (Bk.alloc HK.out (.cells #[.int .u8 46] 5)) hg1 (Kd.R_ne (Kd.R_alloc HR3.out (.cells #[.int .u8 46] 5)) (Bk.alloc HK.out (.cells #[.int .u8 46] 5)) (by decide))); clear hr1 hb1 hg1 hat1))
      clear HK1 HR3 HB HK
      have hlen : (102 :: hexI l ++ [(46 : Int)]).length = 34 := by simp only [List.length_append, List.length_cons, List.length_nil, hexI_length]; omega
      obtain ⟨A1, c1, rfl, hc1, hC1⟩ := Kd.R_reads HR1.out
      rw [hlen] at hC1 ⊢
      have HR2 := Aside0.mk hC1
      clear hc1 hC1 HR1 hlen
      have HCAT := Aside0.mk (show (9223372036854775807 < (strOfNums (102 :: (hexI l ++ [46]))).size + (Lib.itoa n).length) = False by
        have h1 := Lib.itoa_length_le n HN.out.1 HN.out.2
        have h2 : (strOfNums (102 :: (hexI l ++ [46]))).size = 34 := by
          show ((_ : List UInt8)).toArray.size = 34
          simp only [List.size_toArray, List.length_map, List.length_cons, List.length_append, List.length_nil, hexI_length]; omega
        rw [h2, eq_iff_iff, iff_false]; omega)
      refine wp_region_noPanic ?_
      refine wp_region_held_drew (S := fun W => Below w.heap.size w W) (by kernel_rfl) (HB1.out.drew) (fun hHeld => ?_)
      refine wpAnyH_take (i := 0) (oi := { dst := some 45, op := _, type := _, pos := _, after := _, guard := _ }) (v := ?_) rfl (by kernel_rfl) (by kernel_rfl) (by kernel_rfl) (fun _ _ _ h => h) (Or.inl ⟨by rfl, ?_⟩) hHeld ?_
      rotate_left
      · (intro w hSw; go_simp) <;> (with_reducible rfl)
      try simp only [Act.put, List.setIfInBounds_toArray, List.set_cons_zero, List.set_cons_succ]
      refine wpAnyH_take (i := 2) (oi := { dst := some 47, op := _, type := _, pos := _, after := _, guard := _ }) (v := ?_) rfl (by kernel_rfl) (by kernel_rfl) (by kernel_rfl) (fun _ _ _ h => h) (Or.inl ⟨by rfl, ?_⟩) hHeld ?_
      rotate_left
      · (intro w hSw; go_simp) <;> (with_reducible rfl)
      try simp only [Act.put, List.setIfInBounds_toArray, List.set_cons_zero, List.set_cons_succ]
      have HR2_ := Aside0.mk (Kd.C_drew HR2.out)
      clear HR2
      have HR2 := HR2_
      clear HR2_ HB1
      generalize w1.drew = W0 at HR2 hHeld ⊢
      refine wpAnyH_ready (rs := [1, 3]) (by kernel_rfl) (by simp) (AllReadyH.cons (o := { dst := some 46, op := _, type := _, pos := _, after := _, guard := _ }) rfl (fun K hK => ?_) (AllReadyH.cons (o := { dst := some 48, op := _, type := _, pos := _, after := _, guard := _ }) rfl (fun K hK => ?_) (AllReadyH.nil)))
      · have ks := Kd.C_string (P := Tryd.prog) (c := c1) Tryd.underlying28 Tryd.underlying5 Tryd.underlying9 HR2.out
        go_simp
        clear ks
        refine hK.out _ _ (hHeld) (fun hHeld2 => ?_)
        clear hK K hHeld
        have hHeld := hHeld2
        clear hHeld2
        try simp only [Act.put, List.setIfInBounds_toArray, List.set_cons_zero, List.set_cons_succ]
        clear HR2
        refine wpAnyH_ready (rs := [3]) (by kernel_rfl) (by simp) (AllReadyH.cons (o := { dst := some 48, op := _, type := _, pos := _, after := _, guard := _ }) rfl (fun K hK => ?_) (AllReadyH.nil))
        go_simp
        refine (decimal_calls n _ HN.out).mono ?_
        rintro e W9 ⟨rfl, hb1⟩
        refine hK.out _ _ (below_step hHeld hb1) (fun hHeld2 => ?_)
        clear hK K hHeld
        have hHeld := hHeld2
        clear hHeld2
        try simp only [Act.put, List.setIfInBounds_toArray, List.set_cons_zero, List.set_cons_succ]
        clear hb1
        refine wpAnyH_take (i := 4) (oi := { dst := some 49, op := _, type := _, pos := _, after := _, guard := _ }) (v := ?_) rfl (by kernel_rfl) (by kernel_rfl) (by kernel_rfl) (fun _ _ _ h => h) (Or.inl ⟨by rfl, ?_⟩) hHeld ?_
        rotate_left
        · (intro w hSw; have hc := HCAT.out; go_simp) <;> (with_reducible rfl)
        try simp only [Act.put, List.setIfInBounds_toArray, List.set_cons_zero, List.set_cons_succ]
        refine wpAnyH_take (i := 5) (oi := { dst := some 4, op := _, type := _, pos := _, after := _, guard := _ }) (v := ?_) rfl (by kernel_rfl) (by kernel_rfl) (by kernel_rfl) (fun _ _ _ h => h) (Or.inl ⟨by rfl, ?_⟩) hHeld ?_
        rotate_left
        · (intro w hSw; go_simp) <;> (with_reducible rfl)
        try simp only [Act.put, List.setIfInBounds_toArray, List.set_cons_zero, List.set_cons_succ]
        refine wpAnyH_done (by kernel_rfl) ?_ _
        refine NoPanic.normal ?_
        (go_wp2; go_ret; exact ⟨by first | rfl | simp, hHeld⟩)
      · go_simp
        refine (decimal_calls n _ HN.out).mono ?_
        rintro e W9 ⟨rfl, hb1⟩
        refine hK.out _ _ (below_step hHeld hb1) (fun hHeld2 => ?_)
        clear hK K hHeld
        have hHeld := hHeld2
        clear hHeld2
        try simp only [Act.put, List.setIfInBounds_toArray, List.set_cons_zero, List.set_cons_succ]
        have HR2_ := Aside0.mk (Kd.C_below HR2.out hb1)
        clear HR2
        have HR2 := HR2_
        clear HR2_
        clear hb1
        refine wpAnyH_ready (rs := [1]) (by kernel_rfl) (by simp) (AllReadyH.cons (o := { dst := some 46, op := _, type := _, pos := _, after := _, guard := _ }) rfl (fun K hK => ?_) (AllReadyH.nil))
        have ks := Kd.C_string (P := Tryd.prog) (c := c1) Tryd.underlying28 Tryd.underlying5 Tryd.underlying9 HR2.out
        go_simp
        clear ks
        refine hK.out _ _ (hHeld) (fun hHeld2 => ?_)
        clear hK K hHeld
        have hHeld := hHeld2
        clear hHeld2
        try simp only [Act.put, List.setIfInBounds_toArray, List.set_cons_zero, List.set_cons_succ]
        clear HR2
        refine wpAnyH_take (i := 4) (oi := { dst := some 49, op := _, type := _, pos := _, after := _, guard := _ }) (v := ?_) rfl (by kernel_rfl) (by kernel_rfl) (by kernel_rfl) (fun _ _ _ h => h) (Or.inl ⟨by rfl, ?_⟩) hHeld ?_
        rotate_left
        · (intro w hSw; have hc := HCAT.out; go_simp) <;> (with_reducible rfl)
        try simp only [Act.put, List.setIfInBounds_toArray, List.set_cons_zero, List.set_cons_succ]
        refine wpAnyH_take (i := 5) (oi := { dst := some 4, op := _, type := _, pos := _, after := _, guard := _ }) (v := ?_) rfl (by kernel_rfl) (by kernel_rfl) (by kernel_rfl) (fun _ _ _ h => h) (Or.inl ⟨by rfl, ?_⟩) hHeld ?_
        rotate_left
        · (intro w hSw; go_simp) <;> (with_reducible rfl)
        try simp only [Act.put, List.setIfInBounds_toArray, List.set_cons_zero, List.set_cons_succ]
        refine wpAnyH_done (by kernel_rfl) ?_ _
        refine NoPanic.normal ?_
        (go_wp2; go_ret; exact ⟨by first | rfl | simp, hHeld⟩)
    have hii : (i : Int) < 16 := by omega
    have HA2 := Aside0.mk (show hexI (l.take (i + 1)) = hexI (l.take i) ++ hexI [l.getD i 0] by rw [take_one l i (by omega), hexI_append])
    have hbg := HB0.out.get i (by omega)
    obtain ⟨b, hbq⟩ : ∃ b : Nat, l.getD i 0 = (b : Int) := ⟨(l.getD i 0).toNat, by omega⟩
    have HBQ := Aside0.mk hbq
    rw [hbq] at HA2 hbg
    have hb2 : b < 256 := by omega
    simp only [hexI, Int.toNat_natCast] at HA2
    have hq1 : Int.tdiv (b : Int) 16 = ((b / 16 : Nat) : Int) := by rw [Int.tdiv_eq_ediv_of_nonneg (by omega)]; omega
    have hq2 : Int.tmod (b : Int) 16 = ((b % 16 : Nat) : Int) := by rw [Int.tmod_eq_emod_of_nonneg (by omega)]; omega
    have hp16 : b / 16 < 16 := by omega
    have hq16 : b % 16 < 16 := by omega
    generalize b / 16 = p at HA2 hq1 hp16
    generalize b % 16 = q at HA2 hq2 hq16
    have HQ1 := Aside0.mk hq1; have HQ2 := Aside0.mk hq2
    clear hq1 hq2
    have hw1 : IntKind.i64.wrap ((i : Int) + 1) = (i : Int) + 1 := IntWalk.i64_in _ (by omega)
    have HW1 := Aside0.mk hw1
    clear hbq hbg hw1
    go_wp2
    go_loopg [5, 7] 2 (fun g vo vk wx => ∃ k : Nat, k + g = 2 ∧ vk = .int .i64 k ∧ (Kd.int .u8).R 5 wx w.heap.size (fun _ => True) vo (102 :: hexI (l.take i) ++ [(hexN p : Int), (hexN q : Int)].take k) ∧ Bk wx w.heap.size 23 l ∧ Below w.heap.size w wx)
    case atStart => exact ⟨0, rfl, rfl, by rw [List.take_zero, List.append_nil]; exact HR.out, HK.out, HB.out⟩
    case round =>
      obtain ⟨k, hg2, rfl, hR, hK_, hbw⟩ := hrel
      have HR2 := Aside0.mk hR; have HB2 := Aside0.mk hbw; have HK2 := Aside0.mk hK_
      clear hR hbw hK_ HR HB HK
      by_cases hk : k < 2
      rotate_left
      · have hki : ¬ (k : Int) < 2 := by omega
        have hr := HR2.out
        rw [List.take_of_length_le (l := [(hexN p : Int), (hexN q : Int)]) (i := k) (by simp only [List.length_cons, List.length_nil]; omega)] at hr
        have HR3 := Aside0.mk hr
        have hw1 := HW1.out
        clear hr
        go_wp2
        go_roundg (16 - (i + 1))
        case measure => clear hw1; omega
        case rel =>
          refine ⟨i + 1, by clear hw1; omega, by first | rfl | simp, ?_, HK2.out, HB2.out⟩
          rw [HA2.out]
          have := HR3.out
          simpa using this
      have hki : (k : Int) < 2 := by omega
      have hcell : wr.cell? ⟨w.heap.size, i, none⟩ = some (.int .u8 (b : Int)) := by rw [Bk.cell HK2.out i (by omega), HBQ.out]
      have hk2 : IntKind.i64.wrap ((k : Int) + 1) = (k : Int) + 1 := IntWalk.i64_in _ (by omega)
      have HK22 := Aside0.mk hk2
      clear hk2
      rcases (show k = 0 ∨ k = 1 by omega) with rfl | rfl
      · have hq1 := HQ1.out
        have hq2 := HQ2.out
        have hr := HR2.out
        simp only [List.take_zero, List.take_succ_cons] at hr
        have HR4 := Aside0.mk hr
        clear hr HR2
        by_cases hd : p < 10
        · have hdi : (p : Int) < 10 := by clear hq1 hq2; omega
          have HE := Aside0.mk (show (48 : Int) + (p : Int) = (hexN p : Int) by clear hq1 hq2; unfold hexN; rw [if_pos hd]; omega)
          go_wp2_with (first | ((with_reducible refine gate_builtin (b := .append) (xs := #[.tmp 32, .tmp 35]) rfl ?_); at_builtin; refine Kd.R_append_row (Value.int .u8) (0 : Int) (h1 := fun _ => rfl) (w0 := w) w.heap.size rfl (.tmp 32) (.tmp 35) 28 5 (.int .u8 0) 1 rfl Tryd.underlying28 info5 rfl (by omega) _ (102 :: hexI (l.take i) ++ ([] : List Int)) [((48 : Int) + (p : Int))] _ 1 1 (fun _ => True) rfl rfl (fun _ _ => trivial) ?aO ?aR ?aB ?aS ?aL ?_; (case aO => exact Kd.R_alloc HR4.out (.cells #[.int .u8 ((48 : Int) + (p : Int))] 5)); (case aR => exact lit1_C _ _); (case aB => exact (below_step HB2.out (below_alloc (Below.refl _ _) (.cells #[.int .u8 ((48 : Int) + (p : Int))] 5)))); (case aS => exact (below_step HB2.out (below_alloc (Below.refl _ _) (.cells #[.int .u8 ((48 : Int) + (p : Int))] 5))).size); (case aL => simp only [List.length_append, List.length_cons, List.length_nil, hexI_length, List.length_take]; omega); intro v1 w1 hr1 hb1 hg1 hat1; have HR1 := Aside0.mk (show (Kd.int .u8).R 5 w1 w.heap.size (fun _ => True) v1 ((102 :: hexI (l.take i) ++ ([] : List Int)) ++ [((48 : Int) + (p : Int))]) from hr1); have HB1 := Aside0.mk hb1; have HK1 := Aside0.mk (blk_grown (Bk.alloc HK2.out (.cells #[.int .u8 ((48 : Int) + (p : Int))] 5)) hg1 (Kd.R_ne (Kd.R_alloc HR4.out (.cells #[.int .u8 ((48 : Int) + (p : Int))] 5)) (Bk.alloc HK2.out (.cells #[.int .u8 ((48 : Int) + (p : Int))] 5)) (by decide))); clear hr1 hb1 hg1 hat1))
          have hk2 := HK22.out
          go_roundg 1
          case measure => omega
          case rel =>
            refine ⟨1, rfl, by first | rfl | simp, ?_, HK1.out, HB1.out⟩
            have := HR1.out
            rw [HE.out] at this
            simpa using this
        · have hdi : ¬ (p : Int) < 10 := by clear hq1 hq2; omega
          have HE := Aside0.mk (show (87 : Int) + (p : Int) = (hexN p : Int) by clear hq1 hq2; unfold hexN; rw [if_neg hd]; omega)
          go_wp2_with (first | ((with_reducible refine gate_builtin (b := .append) (xs := #[.tmp 37, .tmp 40]) rfl ?_); at_builtin; refine Kd.R_append_row (Value.int .u8) (0 : Int) (h1 := fun _ => rfl) (w0 := w) w.heap.size rfl (.tmp 37) (.tmp 40) 28 5 (.int .u8 0) 1 rfl Tryd.underlying28 info5 rfl (by omega) _ (102 :: hexI (l.take i) ++ ([] : List Int)) [((87 : Int) + (p : Int))] _ 1 1 (fun _ => True) rfl rfl (fun _ _ => trivial) ?aO ?aR ?aB ?aS ?aL ?_; (case aO => exact Kd.R_alloc HR4.out (.cells #[.int .u8 ((87 : Int) + (p : Int))] 5)); (case aR => exact lit1_C _ _); (case aB => exact (below_step HB2.out (below_alloc (Below.refl _ _) (.cells #[.int .u8 ((87 : Int) + (p : Int))] 5)))); (case aS => exact (below_step HB2.out (below_alloc (Below.refl _ _) (.cells #[.int .u8 ((87 : Int) + (p : Int))] 5))).size); (case aL => simp only [List.length_append, List.length_cons, List.length_nil, hexI_length, List.length_take]; omega); intro v1 w1 hr1 hb1 hg1 hat1; have HR1 := Aside0.mk (show (Kd.int .u8).R 5 w1 w.heap.size (fun _ => True) v1 ((102 :: hexI (l.take i) ++ ([] : List Int)) ++ [((87 : Int) + (p : Int))]) from hr1); have HB1 := Aside0.mk hb1; have HK1 := Aside0.mk (blk_grown (Bk.alloc HK2.out (.cells #[.int .u8 ((87 : Int) + (p : Int))] 5)) hg1 (Kd.R_ne (Kd.R_alloc HR4.out (.cells #[.int .u8 ((87 : Int) + (p : Int))] 5)) (Bk.alloc HK2.out (.cells #[.int .u8 ((87 : Int) + (p : Int))] 5)) (by decide))); clear hr1 hb1 hg1 hat1))
          have hk2 := HK22.out
          go_roundg 1
          case measure => omega
          case rel =>
            refine ⟨1, rfl, by first | rfl | simp, ?_, HK1.out, HB1.out⟩
            have := HR1.out
            rw [HE.out] at this
            simpa using this
      · have hq1 := HQ1.out
        have hq2 := HQ2.out
        have hr := HR2.out
        simp only [List.take_zero, List.take_succ_cons] at hr
        have HR4 := Aside0.mk hr
        clear hr HR2
        by_cases hd : q < 10
        · have hdi : (q : Int) < 10 := by clear hq1 hq2; omega
          have HE := Aside0.mk (show (48 : Int) + (q : Int) = (hexN q : Int) by clear hq1 hq2; unfold hexN; rw [if_pos hd]; omega)
          go_wp2_with (first | ((with_reducible refine gate_builtin (b := .append) (xs := #[.tmp 32, .tmp 35]) rfl ?_); at_builtin; refine Kd.R_append_row (Value.int .u8) (0 : Int) (h1 := fun _ => rfl) (w0 := w) w.heap.size rfl (.tmp 32) (.tmp 35) 28 5 (.int .u8 0) 1 rfl Tryd.underlying28 info5 rfl (by omega) _ (102 :: hexI (l.take i) ++ [(hexN p : Int)]) [((48 : Int) + (q : Int))] _ 1 1 (fun _ => True) rfl rfl (fun _ _ => trivial) ?aO ?aR ?aB ?aS ?aL ?_; (case aO => exact Kd.R_alloc HR4.out (.cells #[.int .u8 ((48 : Int) + (q : Int))] 5)); (case aR => exact lit1_C _ _); (case aB => exact (below_step HB2.out (below_alloc (Below.refl _ _) (.cells #[.int .u8 ((48 : Int) + (q : Int))] 5)))); (case aS => exact (below_step HB2.out (below_alloc (Below.refl _ _) (.cells #[.int .u8 ((48 : Int) + (q : Int))] 5))).size); (case aL => simp only [List.length_append, List.length_cons, List.length_nil, hexI_length, List.length_take]; omega); intro v1 w1 hr1 hb1 hg1 hat1; have HR1 := Aside0.mk (show (Kd.int .u8).R 5 w1 w.heap.size (fun _ => True) v1 ((102 :: hexI (l.take i) ++ [(hexN p : Int)]) ++ [((48 : Int) + (q : Int))]) from hr1); have HB1 := Aside0.mk hb1; have HK1 := Aside0.mk (blk_grown (Bk.alloc HK2.out (.cells #[.int .u8 ((48 : Int) + (q : Int))] 5)) hg1 (Kd.R_ne (Kd.R_alloc HR4.out (.cells #[.int .u8 ((48 : Int) + (q : Int))] 5)) (Bk.alloc HK2.out (.cells #[.int .u8 ((48 : Int) + (q : Int))] 5)) (by decide))); clear hr1 hb1 hg1 hat1))
          have hk2 := HK22.out
          go_roundg 0
          case measure => omega
          case rel =>
            refine ⟨2, rfl, by first | rfl | simp, ?_, HK1.out, HB1.out⟩
            have := HR1.out
            rw [HE.out] at this
            simpa using this
        · have hdi : ¬ (q : Int) < 10 := by clear hq1 hq2; omega
          have HE := Aside0.mk (show (87 : Int) + (q : Int) = (hexN q : Int) by clear hq1 hq2; unfold hexN; rw [if_neg hd]; omega)
          go_wp2_with (first | ((with_reducible refine gate_builtin (b := .append) (xs := #[.tmp 37, .tmp 40]) rfl ?_); at_builtin; refine Kd.R_append_row (Value.int .u8) (0 : Int) (h1 := fun _ => rfl) (w0 := w) w.heap.size rfl (.tmp 37) (.tmp 40) 28 5 (.int .u8 0) 1 rfl Tryd.underlying28 info5 rfl (by omega) _ (102 :: hexI (l.take i) ++ [(hexN p : Int)]) [((87 : Int) + (q : Int))] _ 1 1 (fun _ => True) rfl rfl (fun _ _ => trivial) ?aO ?aR ?aB ?aS ?aL ?_; (case aO => exact Kd.R_alloc HR4.out (.cells #[.int .u8 ((87 : Int) + (q : Int))] 5)); (case aR => exact lit1_C _ _); (case aB => exact (below_step HB2.out (below_alloc (Below.refl _ _) (.cells #[.int .u8 ((87 : Int) + (q : Int))] 5)))); (case aS => exact (below_step HB2.out (below_alloc (Below.refl _ _) (.cells #[.int .u8 ((87 : Int) + (q : Int))] 5))).size); (case aL => simp only [List.length_append, List.length_cons, List.length_nil, hexI_length, List.length_take]; omega); intro v1 w1 hr1 hb1 hg1 hat1; have HR1 := Aside0.mk (show (Kd.int .u8).R 5 w1 w.heap.size (fun _ => True) v1 ((102 :: hexI (l.take i) ++ [(hexN p : Int)]) ++ [((87 : Int) + (q : Int))]) from hr1); have HB1 := Aside0.mk hb1; have HK1 := Aside0.mk (blk_grown (Bk.alloc HK2.out (.cells #[.int .u8 ((87 : Int) + (q : Int))] 5)) hg1 (Kd.R_ne (Kd.R_alloc HR4.out (.cells #[.int .u8 ((87 : Int) + (q : Int))] 5)) (Bk.alloc HK2.out (.cells #[.int .u8 ((87 : Int) + (q : Int))] 5)) (by decide))); clear hr1 hb1 hg1 hat1))
          have hk2 := HK22.out
          go_roundg 0
          case measure => omega
          case rel =>
            refine ⟨2, rfl, by first | rfl | simp, ?_, HK1.out, HB1.out⟩
            have := HR1.out
            rw [HE.out] at this
            simpa using this

end Go.Proofs.YtcffacpdjcfidaaDoor.Fr
