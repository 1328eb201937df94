import Derived.Test.YtahiadghodhkhaaGWr9
import Derived.Test.YtahiadghodhkhaaGWr7
namespace Go.Proofs.Ytahiadghodhkhaa.Sb
open Go.RowKit Go.Proofs.YtahiadghodhkhaaW.PrintWords Go.Proofs.YtahiadghodhkhaaW.PrintLast Go.Proofs.YtahiadghodhkhaaW.PrintMore Go.Proofs.Ytahiadghodhkhaa.PB
set_option linter.unusedVariables false
set_option linter.unusedSimpArgs false
theorem bytes_bytesOf (s : ByteArray) : Bytes (bytesOf s) := by
  intro x hx
  obtain ⟨b, _, rfl⟩ := List.mem_map.1 hx
  exact ⟨by omega, by have := b.toNat_lt; omega⟩
theorem str_bytesOf (s : ByteArray) : strOfNums (bytesOf s) = s := by
  unfold strOfNums bytesOf
  rw [List.map_map]
  have e : ((fun n : Int => UInt8.ofNat n.toNat) ∘ fun b : UInt8 => ((b.toNat : Nat) : Int)) = id := by
    funext b
    simp
  rw [e, List.map_id]
theorem askB_ok {kind num : Int} {name : ByteArray} {bd : List Int} (h : okA kind num name.size bd.length = true) (hb : Bytes bd) :
    ∃ q, askB kind num name bd = (q, 0) ∧ q.length ≤ 70000 ∧ Bytes q ∧ getA q = (kind, num, bytesOf name, bd, 0) := by
  have hp : 1 ≤ kind ∧ kind ≤ 4 ∧ 0 ≤ num ∧ num ≤ 2147483647 ∧ bd.length ≤ 60000 ∧ name.size ≤ 64 ∧ (kind = 1 ∨ bd.length = 0) := of_decide_eq_true h
  have hs : askB kind num name bd = ([kind] ++ spr num 4 ++ (textB (bytesOf name)).1 ++ (textB bd).1, 0) := by unfold askB; rw [h, numB1 kind (by omega) (by omega), numB4 num (by omega)]; rfl
  refine ⟨_, hs, ?_, ?_, ?_⟩
  · have h3 := textB_length (bytesOf name)
    have h4 := textB_length bd
    rw [bytesOf_length] at h3
    simp only [List.length_append, List.length_singleton, spr_length]
    omega
  · exact (((Bytes.cons (by omega) (by omega) Bytes.nil).append (bytes_spr num 4)).append (bytes_textB _ (bytes_bytesOf name))).append (bytes_textB _ hb)
  · have t1 := text_forth ([kind] ++ spr num 4) ((textB bd).1) (bytesOf name) 64 (by rw [bytesOf_length]; omega) (by rw [bytesOf_length]; omega)
    have t2 := text_forth ([kind] ++ spr num 4 ++ (textB (bytesOf name)).1) [] bd 60000 (by omega) (by omega)
    have e5 : ([kind] ++ spr num 4).length = 5 := by simp [spr_length]
    rw [e5] at t1
    rw [List.length_append, e5, List.append_nil] at t2
    have e1 : [kind] ++ spr num 4 ++ ((textB (bytesOf name)).1 ++ (textB bd).1) = [kind] ++ spr num 4 ++ (textB (bytesOf name)).1 ++ (textB bd).1 := by rw [List.append_assoc ([kind] ++ spr num 4)]
    rw [e1] at t1
    have k1 : ([kind] ++ spr num 4 ++ (textB (bytesOf name)).1 ++ (textB bd).1).getD 0 0 = kind := rfl
    have k2 : (([kind] ++ spr num 4 ++ (textB (bytesOf name)).1 ++ (textB bd).1).drop 1).take 4 = spr num 4 := by
      have : ([kind] ++ spr num 4 ++ (textB (bytesOf name)).1 ++ (textB bd).1) = kind :: (spr num 4 ++ ((textB (bytesOf name)).1 ++ (textB bd).1)) := by simp
      rw [this, List.drop_succ_cons, List.drop_zero, List.take_append_of_le_length (by rw [spr_length]; omega), List.take_of_length_le (by rw [spr_length]; omega)]
    have k3 : be (spr num 4) = num := be_spr 4 num (by omega) (by omega)
    have kl : ([kind] ++ spr num 4 ++ (textB (bytesOf name)).1 ++ (textB bd).1).length = 5 + (textB (bytesOf name)).1.length + (textB bd).1.length := by simp only [List.length_append, List.length_singleton, spr_length]
    generalize [kind] ++ spr num 4 ++ (textB (bytesOf name)).1 ++ (textB bd).1 = q at *
    unfold getA
    rw [if_neg (by omega), t1]
    simp only [ne_eq, not_true_eq_false, if_false]
    rw [t2]
    simp only [ne_eq, not_true_eq_false, if_false]
    rw [if_neg (by omega), k1, k2, k3, bytesOf_length, if_neg (by rw [h]; decide)]
theorem askB_no {kind num : Int} {name : ByteArray} {bd : List Int} (h : okA kind num name.size bd.length = false) : askB kind num name bd = ([], 14) := by unfold askB; rw [h]; rfl
theorem i_next (i : Nat) (h : i < 140737488355328) : wrap64 ((i : Int) + 1) = ((i + 1 : Nat) : Int) := by unfold wrap64; omega
theorem right_loop (num code : Int) (bd : List Int) (l : List ByteArray) (hm : l.length ≤ 140737488355328) : ∀ (d k i : Nat), i + d = l.length → d < k → scriniumref16_RightAnswer.l0 k i num code bd l = some (okN (l.drop i) && decide (0 ≤ code ∧ code ≤ 3 ∧ 0 ≤ num ∧ num ≤ 2147483647 ∧ bd.length ≤ 60000 ∧ l.length ≤ 1000)) := by
  intro d
  induction d with
  | zero =>
    intro k i hi hk
    obtain ⟨k, rfl⟩ : ∃ j, k = j + 1 := ⟨k - 1, by omega⟩
    simp only [scriniumref16_RightAnswer.l0]
    rw [if_neg (by omega), List.drop_of_length_le (by omega)]
    show _ = some (decide _)
    repeat' split
    all_goals (congr 1)
    all_goals first | (rw [eq_comm, decide_eq_false_iff_not]; omega) | (rw [Bool.eq_iff_iff, decide_eq_true_eq, decide_eq_true_eq]; omega)
  | succ d ih =>
    intro k i hi hk
    obtain ⟨k, rfl⟩ : ∃ j, k = j + 1 := ⟨k - 1, by omega⟩
    simp only [scriniumref16_RightAnswer.l0]
    rw [if_pos (by omega), if_pos (by omega), okN_drop l i (by omega), i_next i (by omega), ih k (i + 1) (by omega) (by omega)]
    generalize rdOf ByteArray.empty l (i : Int) = s
    by_cases c : (s.size : Int) > 64
    · rw [if_pos c, decide_eq_false (by omega : ¬ s.size ≤ 64)]; rfl
    · rw [if_neg c, decide_eq_true (by omega : s.size ≤ 64), Bool.true_and]
theorem refRightN_is (num code : Int) (bd : List Int) (l : List ByteArray) (hm : l.length ≤ 140737488355328) : scriniumref16_RightAnswer.f (l.length + 1) num code bd l = some (okR num code bd.length l) :=
  right_loop num code bd l hm l.length (l.length + 1) 0 (by omega) (by omega)
theorem sameNames_loop (l : List ByteArray) (hm : l.length ≤ 140737488355328) : ∀ (d k i : Nat), i + d = l.length → d < k → scriniumref16_SameNames.l0 k l l i = some true := by
  intro d
  induction d with
  | zero =>
    intro k i hi hk
    obtain ⟨k, rfl⟩ : ∃ j, k = j + 1 := ⟨k - 1, by omega⟩
    simp only [scriniumref16_SameNames.l0]
    rw [if_neg (by omega)]
  | succ d ih =>
    intro k i hi hk
    obtain ⟨k, rfl⟩ : ∃ j, k = j + 1 := ⟨k - 1, by omega⟩
    simp only [scriniumref16_SameNames.l0]
    rw [if_pos (by omega), if_pos (by omega), if_pos (by omega), if_true, i_next i (by omega), ih k (i + 1) (by omega) (by omega)]
theorem sameNames_is (l : List ByteArray) (hm : l.length ≤ 140737488355328) (k : Nat) (hk : l.length < k) : scriniumref16_SameNames.f k l l = some true := by
  unfold scriniumref16_SameNames.f
  rw [if_pos rfl]
  exact sameNames_loop l hm l.length k 0 (by omega) hk
theorem sameAnswer_calls (num code : Int) (bd : List Int) (l : List ByteArray) (A0 : Option Addr) (n0 c0 : Nat) (B0 : Option Addr) (m0 d0 : Nat) (A1 : Option Addr) (n1 c1 : Nat) (B1 : Option Addr) (m1 d1 : Nat) (w : World)
    (hr0 : Bs.C w A0 n0 bd) (h0 : bd.length = n0) (hc0 : n0 ≤ c0) (ks0 : Kd.C Kd.string w B0 m0 l) (g0 : l.length = m0) (kc0 : m0 ≤ d0)
    (hr1 : Bs.C w A1 n1 bd) (h1 : bd.length = n1) (hc1 : n1 ≤ c1) (ks1 : Kd.C Kd.string w B1 m1 l) (g1 : l.length = m1) (kc1 : m1 ≤ d1) (hm : n0 ≤ 140737488355328) (km : m0 ≤ 140737488355328) :
    Calls Try.prog 22 #[.agg #[.int .i64 num, .int .i64 code, .slice A0 n0 c0, .slice B0 m0 d0], .agg #[.int .i64 num, .int .i64 code, .slice A1 n1 c1, .slice B1 m1 d1]] w fun e w' => e = .returned (.bool true) ∧ Below w.heap.size w w' := by
  subst h0
  subst h1
  subst g0
  subst g1
  refine scriniumref16_SameAnswer.calls (bd.length + l.length + 1) num code A0 c0 bd B0 d0 l num code A1 c1 bd B1 d1 l true w hr0 hc0 ks0 kc0 hr1 hc1 ks1 kc1 ?_
  unfold scriniumref16_SameAnswer.f
  rw [if_pos rfl, if_pos rfl, same_is bd bd _ hm (by omega), sameNames_is l km _ (by omega)]
  simp
set_option maxRecDepth 20000 in
set_option maxHeartbeats 8000000 in
theorem refPutAnswer_calls (num code : Int) (A : Option Addr) (n c : Nat) (bd : List Int) (B : Option Addr) (d : Nat) (l : List ByteArray) (w : World) (hm : l.length ≤ 140737488355328) (hl : bd.length = n) (hc : n ≤ c) (hd : l.length ≤ d) (hr : Bs.C w A n bd) (hB : Kd.C Kd.string w B l.length l) :
    Calls Try.prog 24 #[.agg #[.int .i64 num, .int .i64 code, .slice A n c, .slice B l.length d]] w fun e w' => ∃ u, e = .returned (.tuple #[u, .int .i64 (ansB num code bd l).2]) ∧ Bs.R 5 w' w.heap.size (fun _ => True) u (ansB num code bd l).1 ∧ Below w.heap.size w w' := by
  subst hl
  have HA := Aside0.mk (Kd.C_alloc hr (Obj.cells #[.int .i64 num, .int .i64 code, .slice A bd.length c, .slice B l.length d] 32))
  have HN := Aside0.mk (Kd.C_alloc hB (Obj.cells #[.int .i64 num, .int .i64 code, .slice A bd.length c, .slice B l.length d] 32))
  clear hr hB
  cases hK : okR num code bd.length l with
  | false =>
    have hf := Aside0.mk (show ansB num code bd l = ([], 14) by unfold ansB; rw [hK]; rfl)
    go_enter Try.func24, Try.ntmps24
    go_wp2_with fail
    refine (scriniumref16_RightAnswer.calls (l.length + 1) num code A c bd B d l _ _ HA.out hc HN.out hd (refRightN_is num code bd l hm)).mono ?_
    rw [hK]
    rintro e w1 ⟨rfl, hb⟩
    go_wp2_with fail
    go_ret2
    rw [hf.out]
    exact ⟨_, rfl, Kd.R_nil _ _ _ _ _, below_step (below_alloc (Below.refl _ _) _) hb⟩
  | true =>
    have hK2 : okN l = true ∧ (0 ≤ code ∧ code ≤ 3 ∧ 0 ≤ num ∧ num ≤ 2147483647 ∧ bd.length ≤ 60000 ∧ l.length ≤ 1000) := by
      have h := hK
      unfold okR at h
      rw [Bool.and_eq_true] at h
      exact ⟨h.1, of_decide_eq_true h.2⟩
    have HP := Aside0.mk hK2.2
    have HM := Aside0.mk (okN_mem hK2.1)
    have hf := Aside0.mk (show ansB num code bd l = ([code] ++ spr num 4 ++ (textB bd).1 ++ (smallB l.length).1 ++ namesB l, 0) by unfold ansB; rw [hK, numB1 code (by omega) (by omega), numB4 num (by omega)]; rfl)
    have HY := Aside0.mk (bytes_is num 4 (by omega) (by unfold M64; omega) (by omega))
    have HZ := Aside0.mk (text16_is bd)
    have HX := Aside0.mk (show scriniumref01_Small.f 9 (l.length : Int) = some ((smallB l.length).1, (smallB l.length).2) from refSmall_is (l.length : Int) (by omega) (by unfold M64; omega))
    have hq2 := Aside0.mk (spr_length num 4)
    have hq3 := textB_length bd
    have hq4 := smallB_length (l.length : Int)
    generalize spr num 4 = q2 at HY hf hq2
    generalize (textB bd).1 = q3 at HZ hf hq3
    generalize (smallB (l.length : Int)).1 = q4 at HX hf hq4
    generalize (smallB (l.length : Int)).2 = er4 at HX
    clear hK2
    go_enter Try.func24, Try.ntmps24
    go_wp2_with fail
    generalize hW0 : w.alloc (Obj.cells #[.int .i64 num, .int .i64 code, .slice A bd.length c, .slice B l.length d] 32) = W0 at HA HN
    have hb0 : Below w.heap.size w W0 := by rw [← hW0]; exact below_alloc (Below.refl _ _) _
    have hP0 : W0.heap[w.heap.size]? = some (.cells #[.int .i64 num, .int .i64 code, .slice A bd.length c, .slice B l.length d] 32 (0, 0)) := by rw [← hW0]; exact blk_new _ _
    have hS0 : W0.heap.size = w.heap.size + 1 := by rw [← hW0]; simp
    clear hW0
    refine (scriniumref16_RightAnswer.calls (l.length + 1) num code A c bd B d l _ _ HA.out hc HN.out hd (refRightN_is num code bd l hm)).mono ?_
    rw [hK]
    rintro e w1 ⟨rfl, hb1⟩
    have hs1 := hb1.size
    have p1 : w1.cell? ⟨w.heap.size, 1, none⟩ = some (.int .i64 code) := (blk_cell (blk_below hP0 hb1) 1).trans rfl
    have e1 : IntKind.u8.wrap code = code := by have := HP.out; show code % 256 = code; omega
    have e2 : IntKind.u64.wrap num = num := u64_small (by have := HP.out; omega) (by have := HP.out; unfold M64; omega)
    have HB0 := Aside0.mk hb0; have HP0 := Aside0.mk hP0; have HBA := Aside0.mk hb1
    clear hb0 hP0 hb1
    go_wp2_with (first | ((with_reducible refine gate_builtin (b := .append) (xs := #[.tmp 11, .tmp 15]) rfl ?_); at_builtin; refine Kd.R_append_row (Value.int .u8) (0 : Int) (h1 := fun _ => rfl) (w0 := W0) W0.heap.size rfl (.tmp 11) (.tmp 15) 27 5 (.int .u8 0) 1 rfl Try.underlying27 info5 rfl (by omega) (.slice none 0 0) ([] : List Int) ([code]) (some ⟨w1.heap.size, 0, none⟩) (1) (1) (fun _ => True) rfl rfl (fun _ _ => trivial) ?aO ?aR ?aB ?aS ?aL ?_; (case aO => exact Kd.R_nil _ _ _ _ _); (case aR => exact C_lit_new .u8 5 w1 [code] 1 _ (by rfl) rfl (by decide)); (case aB => exact HBA.out.alloc hs1 _); (case aS => exact below_size (HBA.out.alloc hs1 _)); (case aL => simp); intro v1 w2 ho hb hg hat; rw [List.nil_append] at ho; have hO1 := Aside0.mk ho; have hB1 := Aside0.mk hb; have hs_2 := hb.size; have p0 : w2.cell? ⟨w.heap.size, 0, none⟩ = some (.int .i64 num) := (blk_cell (blk_below HP0.out hb) 0).trans rfl; clear ho hb hg hat))
    refine (scriniumref01_Bytes.calls 9 num 4 q2 _ HY.out).mono ?_
    rintro e w3 ⟨u2, rfl, hu2, hb2⟩
    obtain ⟨A2, c2, rfl, hc2, hr2⟩ := Kd.R_reads hu2
    have hs3 := hb2.size
    have HR1 := Aside0.mk (Kd.R_below hO1.out hb2); have HC2 := Aside0.mk hr2; have HB2 := Aside0.mk (below_step hB1.out hb2)
    clear hu2 hr2 hb2 e1 p1 p0
    go_wp2_with (first | ((with_reducible refine gate_builtin (b := .append) (xs := #[.tmp 17, .tmp 21]) rfl ?_); at_builtin; refine Kd.R_append_row (Value.int .u8) (0 : Int) (h1 := fun _ => rfl) (w0 := W0) W0.heap.size rfl (.tmp 17) (.tmp 21) 27 5 (.int .u8 0) 1 rfl Try.underlying27 info5 rfl (by omega) (v1) ([code]) (q2) (A2) (q2.length) (c2) (fun _ => True) rfl rfl (fun _ _ => trivial) ?aO ?aR ?aB ?aS ?aL ?_; (case aO => exact HR1.out); (case aR => exact HC2.out); (case aB => exact HB2.out); (case aS => exact below_size (HB2.out)); (case aL => (have := hq2.out); simp only [List.length_singleton]; omega); intro v2 w4 ho hb hg hat; have hO2 := Aside0.mk ho; have hB2 := Aside0.mk hb; have hs_4 := hb.size; have p2 : w4.cell? ⟨w.heap.size, 2, none⟩ = some (.slice A bd.length c) := (blk_cell (blk_below HP0.out hb) 2).trans rfl; clear ho hb hg hat))
    refine (text16_calls A bd.length c bd q3 _ (Kd.C_below HA.out hB2.out) rfl hc HZ.out).mono ?_
    rintro e w5 ⟨u3, rfl, hu3, hb5⟩
    obtain ⟨A3, c3, rfl, hc3, hr3⟩ := Kd.R_reads hu3
    have hs5 := hb5.size
    have HR3 := Aside0.mk (Kd.R_below hO2.out hb5); have HC3 := Aside0.mk hr3; have HB5 := Aside0.mk (below_step hB2.out hb5)
    clear hu3 hr3 hb5 e2 p2
    have e3 : IntKind.u64.wrap (l.length : Int) = (l.length : Int) := u64_small (by omega) (by have := HP.out; unfold M64; omega)
    go_wp2_with (first | ((with_reducible refine gate_builtin (b := .append) (xs := #[.tmp 23, .tmp 26]) rfl ?_); at_builtin; refine Kd.R_append_row (Value.int .u8) (0 : Int) (h1 := fun _ => rfl) (w0 := W0) W0.heap.size rfl (.tmp 23) (.tmp 26) 27 5 (.int .u8 0) 1 rfl Try.underlying27 info5 rfl (by omega) (v2) ([code] ++ q2) (q3) (A3) (q3.length) (c3) (fun _ => True) rfl rfl (fun _ _ => trivial) ?aO ?aR ?aB ?aS ?aL ?_; (case aO => exact HR3.out); (case aR => exact HC3.out); (case aB => exact HB5.out); (case aS => exact below_size (HB5.out)); (case aL => (have := HP.out); (have := hq2.out); simp only [List.length_append, List.length_singleton]; omega); intro v3 w6 ho hb hg hat; have hO3 := Aside0.mk ho; have hB3 := Aside0.mk hb; have hs_6 := hb.size; have p3 : w6.cell? ⟨w.heap.size, 3, none⟩ = some (.slice B l.length d) := (blk_cell (blk_below HP0.out hb) 3).trans rfl; clear ho hb hg hat))
    clear e3
    refine (scriniumref01_Small.calls 9 (l.length : Int) q4 er4 _ HX.out).mono ?_
    rintro e w7 ⟨u4, rfl, hu4, hb7⟩
    obtain ⟨A4, c4, rfl, hc4, hr4⟩ := Kd.R_reads hu4
    have hs7 := hb7.size
    have HR4 := Aside0.mk (Kd.R_below hO3.out hb7); have HC4 := Aside0.mk hr4; have HB7 := Aside0.mk (below_step hB3.out hb7)
    clear hu4 hr4 hb7 p3
    go_wp2_with (first | ((with_reducible refine gate_builtin (b := .append) (xs := #[.tmp 36, .tmp 37]) rfl ?_); at_builtin; refine Kd.R_append_row (Value.int .u8) (0 : Int) (h1 := fun _ => rfl) (w0 := W0) W0.heap.size rfl (.tmp 36) (.tmp 37) 27 5 (.int .u8 0) 1 rfl Try.underlying27 info5 rfl (by omega) (v3) ([code] ++ q2 ++ q3) (q4) (A4) (q4.length) (c4) (fun _ => True) rfl rfl (fun _ _ => trivial) ?aO ?aR ?aB ?aS ?aL ?_; (case aO => exact HR4.out); (case aR => exact HC4.out); (case aB => exact HB7.out); (case aS => exact below_size (HB7.out)); (case aL => (have := HP.out); (have := hq2.out); simp only [List.length_append, List.length_singleton]; omega); intro v4 w8 ho hb hg hat; have hO4 := Aside0.mk ho; have hB4 := Aside0.mk hb; have hs_8 := hb.size; have p3 : w8.cell? ⟨w.heap.size, 3, none⟩ = some (.slice B l.length d) := (blk_cell (blk_below HP0.out hb) 3).trans rfl; clear ho hb hg hat))
    clear p3
    have hq : ([code] ++ q2 ++ q3 ++ q4).length ≤ 70000 := by have := HP.out; have := hq2.out; simp only [List.length_append, List.length_singleton]; omega
    have hf2 := Aside0.mk (show ansB num code bd l = (([code] ++ q2 ++ q3 ++ q4) ++ namesB l, 0) from hf.out)
    generalize [code] ++ q2 ++ q3 ++ q4 = pre at hq hf2 hO4
    clear hf hq2 hq3 hq4 HY HX HZ hO1 hO2 hO3 hB1 hB2 hB3 HR1 HR3 HR4 HC2 HC3 HC4 HB2 HB5 HB7
    go_loopg [4, 7] l.length (fun kq v4 v7 w' => ∃ (i : Nat), v7 = .int .i64 i ∧ i ≤ l.length ∧ Aside0 (kq + i = l.length) ∧ Aside0 (Bs.R 5 w' W0.heap.size (fun _ => True) v4 (pre ++ namesB (l.take i))) ∧ Aside0 (Below W0.heap.size W0 w'))
    case atStart => exact ⟨0, rfl, Nat.zero_le _, ⟨rfl⟩, ⟨by rw [List.take_zero]; show Bs.R _ _ _ _ _ (pre ++ []); rw [List.append_nil]; exact hO4.out⟩, hB4⟩
    case round =>
      clear hO4 hB4
      obtain ⟨i, rfl, hi, HK, HV, HB⟩ := hrel
      have p3 : wr.cell? ⟨w.heap.size, 3, none⟩ = some (.slice B l.length d) := (blk_cell (blk_below HP0.out HB.out) 3).trans rfl
      by_cases hlt : i < l.length
      · have hci : (i : Int) < (l.length : Int) := by omega
        obtain ⟨xs, hxs⟩ : ∃ xs, xs = pre ++ namesB (l.take i) := ⟨_, rfl⟩
        rw [← hxs] at HV
        have HXS := Aside0.mk hxs
        clear hxs
        obtain ⟨Av, cv, ev, _, _⟩ := Kd.R_reads HV.out
        subst ev
        obtain ⟨ad, e9, hx0⟩ := Kd.at_string HN.out i (Int.natCast_nonneg _) hci
        cases e9
        rw [Int.toNat_natCast] at hx0
        replace hx0 := (HB.out.cell (World.block_lt_of_cell? W0 _ hx0)).trans hx0
        have HT := Aside0.mk (namesB_take l i hlt)
        have hsz : (rdOf ByteArray.empty l (i : Int)).size ≤ 64 := HM.out _ (by rw [rd_names_mem l i hlt]; exact List.getElem_mem hlt)
        have hpl : (namesB (l.take i)).length ≤ 73 * i := by
          have := namesB_length (l := l.take i) (fun s hs => HM.out s (List.mem_of_mem_take hs))
          rw [List.length_take] at this
          omega
        generalize rdOf ByteArray.empty l (i : Int) = s at hx0 HT hsz
        have HX := Aside0.mk (text16_is (bytesOf s))
        have hq5 := textB_length (bytesOf s)
        rw [bytesOf_length] at hq5
        generalize (textB (bytesOf s)).1 = q5 at HX HT hq5
        have HPL := Aside0.mk (And.intro hpl hq5)
        clear hpl hq5
        have kb := fun W => print_bytes (P := Try.prog) 9 27 5 Try.underlying9 Try.underlying27 Try.underlying5 s W
        go_wp2_with fail
        have hbw : Below wr.heap.size wr (Lib.bytesWorld wr 5 s) := bytes_below (Below.refl _ _) (Nat.le_refl _) _ _
        have hsz9 : s.size ≤ 9223372036854775807 := by omega
        have hcw : Bs.C (Lib.bytesWorld wr 5 s) (some ⟨wr.heap.size, 0, none⟩) s.size (bytesOf s) := Kd.C_of_reads (enc := Value.int .u8) (d := (0 : Int)) (h1 := fun _ => rfl) (bytes_reads wr 5 s hsz9)
        refine (text16_calls _ _ _ (bytesOf s) q5 _ hcw (bytesOf_length s) (grownCap_ge _ _ _ _) HX.out).mono ?_
        rintro e w9 ⟨u5, rfl, hu5, hb9⟩
        obtain ⟨A5, c5, rfl, hc5, hr5⟩ := Kd.R_reads hu5
        have HR5 := Aside0.mk (Kd.R_below (Kd.R_below HV.out hbw) hb9); have HC5 := Aside0.mk hr5; have HB9 := Aside0.mk (below_step (below_step HB.out hbw) hb9)
        clear hu5 hr5 hb9 hbw hcw p3 kb hx0 hsz9
        go_wp2_with (first | ((with_reducible refine gate_builtin (b := .append) (xs := #[.tmp 46, .tmp 53]) rfl ?_); at_builtin; refine Kd.R_append_row (Value.int .u8) (0 : Int) (h1 := fun _ => rfl) (w0 := W0) W0.heap.size rfl (.tmp 46) (.tmp 53) 27 5 (.int .u8 0) 1 rfl Try.underlying27 info5 rfl (by omega) (.slice Av xs.length cv) (xs) (q5) (A5) (q5.length) (c5) (fun _ => True) rfl rfl (fun _ _ => trivial) ?aO ?aR ?aB ?aS ?aL ?_; (case aO => exact HR5.out); (case aR => exact HC5.out); (case aB => exact HB9.out); (case aS => exact below_size (HB9.out)); (case aL => (have := HP.out); (have := HPL.out); (have e := congrArg List.length HXS.out); rw [List.length_append] at e; omega); intro v5 w10 ho hb hg hat; have hO5 := Aside0.mk ho; have hB5 := Aside0.mk hb; clear ho hb hg hat))
        go_roundg (gk - 1)
        case measure => have := HK.out; omega
        case rel => exact ⟨i + 1, by simp, by omega, ⟨by have := HK.out; omega⟩, ⟨by rw [HT.out, ← List.append_assoc, ← HXS.out]; exact hO5.out⟩, hB5⟩
      · have hci : ¬ (i : Int) < (l.length : Int) := by omega
        have hV := HV.out
        rw [List.take_of_length_le (by omega)] at hV
        have HV := Aside0.mk hV
        clear hV
        go_wp2_with fail
        go_ret2
        rw [hf2.out]
        exact ⟨_, rfl, Kd.R_lower HV.out (by omega), HB0.out.trans (HB.out.mono (by omega))⟩
theorem names_forth : ∀ (l : List ByteArray) (p : List Int), (∀ s, s ∈ l → s.size ≤ 64) → namesR (p ++ namesB l) l.length p.length = (l, (p ++ namesB l).length, 0) := by
  intro l
  induction l with
  | nil => intro p _; simp [namesB, namesR]
  | cons s l ih =>
    intro p h
    have hs := h s List.mem_cons_self
    have ht := text_forth p (namesB l) (bytesOf s) 64 (by rw [bytesOf_length]; omega) (by rw [bytesOf_length]; omega)
    have hi := ih (p ++ (textB (bytesOf s)).1) (fun x hx => h x (List.mem_cons_of_mem _ hx))
    have e : p ++ (textB (bytesOf s)).1 ++ namesB l = p ++ ((textB (bytesOf s)).1 ++ namesB l) := List.append_assoc _ _ _
    rw [e, List.length_append] at hi
    show namesR (p ++ ((textB (bytesOf s)).1 ++ namesB l)) (l.length + 1) p.length = _
    simp only [namesR]
    rw [ht]
    simp only [ne_eq, not_true_eq_false, if_false]
    rw [hi, str_bytesOf]
    rfl
theorem bytes_namesB : ∀ (l : List ByteArray), Bytes (namesB l)
  | [] => Bytes.nil
  | s :: l => (bytes_textB _ (bytes_bytesOf s)).append (bytes_namesB l)
theorem ansB_ok {num code : Int} {bd : List Int} {l : List ByteArray} (h : okR num code bd.length l = true) (hb : Bytes bd) :
    ∃ q, ansB num code bd l = (q, 0) ∧ 5 ≤ q.length ∧ q.length ≤ 190000 ∧ Bytes q ∧ getN q = (num, code, bd, l, 0) := by
  have hK2 : okN l = true ∧ (0 ≤ code ∧ code ≤ 3 ∧ 0 ≤ num ∧ num ≤ 2147483647 ∧ bd.length ≤ 60000 ∧ l.length ≤ 1000) := by
    have h := h
    unfold okR at h
    rw [Bool.and_eq_true] at h
    exact ⟨h.1, of_decide_eq_true h.2⟩
  obtain ⟨hN, hp⟩ := hK2
  have hM := okN_mem hN
  have hs : ansB num code bd l = ([code] ++ spr num 4 ++ (textB bd).1 ++ (smallB l.length).1 ++ namesB l, 0) := by unfold ansB; rw [h, numB1 code (by omega) (by omega), numB4 num (by omega)]; rfl
  have kl : ([code] ++ spr num 4 ++ (textB bd).1 ++ (smallB l.length).1 ++ namesB l).length = 5 + (textB bd).1.length + (smallB (l.length : Int)).1.length + (namesB l).length := by simp only [List.length_append, List.length_singleton, spr_length]
  have h1 := textB_length bd
  have h2 := smallB_length (l.length : Int)
  have h3 := namesB_length hM
  refine ⟨_, hs, by omega, by omega, ?_, ?_⟩
  · exact ((((Bytes.cons (by omega) (by omega) Bytes.nil).append (bytes_spr num 4)).append (bytes_textB _ hb)).append (bytes_smallB _ (by omega))).append (bytes_namesB l)
  · have t1 := text_forth ([code] ++ spr num 4) ((smallB l.length).1 ++ namesB l) bd 60000 (by omega) (by omega)
    have t2 := small_forth ([code] ++ spr num 4 ++ (textB bd).1) (namesB l) (l.length : Int) 1000 (by omega) (by omega) (by omega)
    have t3 := names_forth l ([code] ++ spr num 4 ++ (textB bd).1 ++ (smallB l.length).1) hM
    have e5 : ([code] ++ spr num 4).length = 5 := by simp [spr_length]
    rw [e5] at t1
    rw [List.length_append, e5] at t2
    rw [show ([code] ++ spr num 4 ++ (textB bd).1 ++ (smallB (l.length : Int)).1).length = 5 + (textB bd).1.length + (smallB (l.length : Int)).1.length by simp only [List.length_append, List.length_singleton, spr_length]] at t3
    have a1 : [code] ++ spr num 4 ++ ((textB bd).1 ++ ((smallB l.length).1 ++ namesB l)) = [code] ++ spr num 4 ++ (textB bd).1 ++ (smallB l.length).1 ++ namesB l := by simp only [List.append_assoc]
    have a2 : [code] ++ spr num 4 ++ (textB bd).1 ++ ((smallB l.length).1 ++ namesB l) = [code] ++ spr num 4 ++ (textB bd).1 ++ (smallB l.length).1 ++ namesB l := by simp only [List.append_assoc]
    rw [a1] at t1
    rw [a2] at t2
    have k1 : ([code] ++ spr num 4 ++ (textB bd).1 ++ (smallB l.length).1 ++ namesB l).getD 0 0 = code := rfl
    have k2 : (([code] ++ spr num 4 ++ (textB bd).1 ++ (smallB l.length).1 ++ namesB l).drop 1).take 4 = spr num 4 := by
      have : ([code] ++ spr num 4 ++ (textB bd).1 ++ (smallB l.length).1 ++ namesB l) = code :: (spr num 4 ++ ((textB bd).1 ++ ((smallB l.length).1 ++ namesB l))) := by simp
      rw [this, List.drop_succ_cons, List.drop_zero, List.take_append_of_le_length (by rw [spr_length]; omega), List.take_of_length_le (by rw [spr_length]; omega)]
    have k3 : be (spr num 4) = num := be_spr 4 num (by omega) (by omega)
    generalize [code] ++ spr num 4 ++ (textB bd).1 ++ (smallB l.length).1 ++ namesB l = q at *
    unfold getN
    rw [if_neg (by omega), t1]
    simp only [ne_eq, not_true_eq_false, if_false]
    rw [t2]
    simp only [ne_eq, not_true_eq_false, if_false, Int.toNat_natCast]
    rw [t3]
    simp only [ne_eq, not_true_eq_false, if_false]
    rw [k1, k2, k3, h, if_neg (by decide)]
end Go.Proofs.Ytahiadghodhkhaa.Sb
