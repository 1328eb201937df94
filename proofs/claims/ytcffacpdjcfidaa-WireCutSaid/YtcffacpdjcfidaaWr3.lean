/- wire: PutAsk, and the document's. -/
import Derived.Test.YtcffacpdjcfidaaWr2
namespace Go.Proofs.Ytcffacpdjcfidaa.Sb
open Go.RowKit Go.Proofs.YtcffacpdjcfidaaW.PrintWords Go.Proofs.YtcffacpdjcfidaaW.PrintLast Go.Proofs.YtcffacpdjcfidaaW.PrintMore Go.Proofs.Ytcffacpdjcfidaa.PW
set_option linter.unusedVariables false
set_option linter.unusedSimpArgs false

set_option maxRecDepth 20000 in
set_option maxHeartbeats 2000000 in
theorem PutAsk_calls (kind num : Int) (name : ByteArray) (A : Option Addr) (n c : Nat) (bd : List Int) (w : World) (hn : n ≤ 140737488355328) (hm : name.size ≤ 140737488355328) (hl : bd.length = n) (hc : n ≤ c) (hr : Bs.C w A n bd) :
    Calls Try.prog 8 #[.agg #[.int .i64 kind, .int .i64 num, .string name, .slice A n c]] w fun e w' => ∃ u, e = .returned (.tuple #[u, .int .i64 (askB kind num name bd).2]) ∧ Bs.R 5 w' w.heap.size (fun _ => True) u (askB kind num name bd).1 ∧ Below w.heap.size w w' := by
  have HR := Aside0.mk hr
  clear hr
  go_enter Try.func8, Try.ntmps8
  go_wp2_with fail
  refine (putA_calls kind num name A n c bd _ hn hm hl hc (Kd.C_alloc HR.out _)).mono ?_
  rintro e w1 ⟨u, rfl, hu, hb⟩
  have HU := Aside0.mk hu
  have HB := Aside0.mk hb
  clear hu hb
  go_wp2_with fail
  go_ret2
  exact ⟨u, rfl, Kd.R_lower HU.out (by simp), below_step (below_alloc (Below.refl _ _) _) HB.out⟩

theorem refRight_is (kind num : Int) (name : ByteArray) (bd : List Int) : scriniumref16_RightAsk.f kind num name bd = some (okA kind num name.size bd.length) := by
  unfold scriniumref16_RightAsk.f okA
  repeat' split
  all_goals (congr 1)
  all_goals first | (rw [eq_comm, decide_eq_false_iff_not]; omega) | (rw [eq_comm, decide_eq_true_eq]; omega) | skip
  rw [Bool.eq_iff_iff, beq_iff_eq, decide_eq_true_eq]
  omega
theorem text16_is (l : List Int) : scriniumref16_text.f 9 l = some (textB l).1 := by
  unfold scriniumref16_text.f; rw [refText_is]; rfl
theorem text16_calls (A : Option Addr) (n c : Nat) (l q : List Int) (w : World) (hr : Bs.C w A n l) (hn : l.length = n) (hc : n ≤ c) (hq : scriniumref16_text.f 9 l = some q) :
    Calls Try.prog 23 #[.slice A n c] w fun e w' => ∃ u, e = .returned u ∧ Bs.R 5 w' w.heap.size (fun _ => True) u q ∧ Below w.heap.size w w' := by
  subst hn
  exact scriniumref16_text.calls 9 A c l q w hr hc hq
theorem numB1 (x : Int) (h0 : 0 ≤ x) (h1 : x ≤ 255) : (numB x 1).1 = [x] := by
  have hw : wd x = 1 := by unfold wd; rw [if_pos (by omega)]
  unfold numB; rw [hw, if_neg (by omega), if_neg (by omega)]
  show [x % 256] = [x]
  rw [Int.emod_eq_of_lt h0 (by omega)]
theorem numB4 (x : Int) (h1 : x < 4294967296) : (numB x 4).1 = spr x 4 := by
  have hw := wd_small x h1
  unfold numB; rw [if_neg (by omega), if_neg (by omega)]; rfl

set_option maxRecDepth 20000 in
set_option maxHeartbeats 4000000 in
theorem refPutAsk_calls (kind num : Int) (name : ByteArray) (A : Option Addr) (n c : Nat) (bd : List Int) (w : World) (hm : name.size ≤ 140737488355328) (hl : bd.length = n) (hc : n ≤ c) (hr : Bs.C w A n bd) :
    Calls Try.prog 9 #[.agg #[.int .i64 kind, .int .i64 num, .string name, .slice A n c]] w fun e w' => ∃ u, e = .returned (.tuple #[u, .int .i64 (askB kind num name bd).2]) ∧ Bs.R 5 w' w.heap.size (fun _ => True) u (askB kind num name bd).1 ∧ Below w.heap.size w w' := by
  have HR := Aside0.mk hr
  subst hl
  clear hr
  cases hK : okA kind num name.size bd.length with
  | false =>
    have hf := Aside0.mk (show askB kind num name bd = ([], 14) by unfold askB; rw [hK]; rfl)
    go_enter Try.func9, Try.ntmps9
    go_wp2_with fail
    refine (scriniumref16_RightAsk.calls kind num name A c bd _ _ (Kd.C_alloc HR.out _) hc (refRight_is kind num name bd)).mono ?_
    rw [hK]
    rintro e w1 ⟨rfl, hb⟩
    go_wp2_with fail
    go_ret2
    rw [hf.out]
    exact ⟨_, rfl, Kd.R_nil _ _ _ _ _, below_step (below_alloc (Below.refl _ _) _) hb⟩
  | true =>
    have hp : 1 ≤ kind ∧ kind ≤ 4 ∧ 0 ≤ num ∧ num ≤ 2147483647 ∧ bd.length ≤ 60000 ∧ name.size ≤ 64 ∧ (kind = 1 ∨ bd.length = 0) := of_decide_eq_true hK
    have HP := Aside0.mk hp
    have hf := Aside0.mk (show askB kind num name bd = ([kind] ++ spr num 4 ++ (textB (bytesOf name)).1 ++ (textB bd).1, 0) by unfold askB; rw [hK, numB1 kind (by omega) (by omega), numB4 num (by omega)]; rfl)
    have HY := Aside0.mk (bytes_is num 4 (by omega) (by unfold M64; omega) (by omega))
    have HX := Aside0.mk (text16_is (bytesOf name))
    have HZ := Aside0.mk (text16_is bd)
    have hq2 := Aside0.mk (spr_length num 4)
    have hq3 := textB_length (bytesOf name)
    have hq4 := textB_length bd
    rw [bytesOf_length] at hq3
    generalize spr num 4 = q2 at HY hf hq2
    generalize (textB (bytesOf name)).1 = q3 at HX hf hq3
    generalize (textB bd).1 = q4 at HZ hf hq4
    clear hp
    have HA := Aside0.mk (Kd.C_alloc HR.out (Obj.cells #[.int .i64 kind, .int .i64 num, .string name, .slice A bd.length c] 24))
    go_enter Try.func9, Try.ntmps9
    go_wp2_with fail
    generalize hW0 : w.alloc (Obj.cells #[.int .i64 kind, .int .i64 num, .string name, .slice A bd.length c] 24) = W0 at HA
    have hb0 : Below w.heap.size w W0 := by rw [← hW0]; exact below_alloc (Below.refl _ _) _
    have hP0 : W0.heap[w.heap.size]? = some (.cells #[.int .i64 kind, .int .i64 num, .string name, .slice A bd.length c] 24 (0, 0)) := by rw [← hW0]; exact blk_new _ _
    have hS0 : W0.heap.size = w.heap.size + 1 := by rw [← hW0]; simp
    clear hW0
    refine (scriniumref16_RightAsk.calls kind num name A c bd _ _ HA.out hc (refRight_is kind num name bd)).mono ?_
    rw [hK]
    rintro e w1 ⟨rfl, hb1⟩
    have hs1 := hb1.size
    have hP1 := blk_below hP0 hb1
    have HP1 := Aside0.mk hP1
    have HB1 := Aside0.mk (below_step hb0 hb1)
    have p0 : w1.cell? ⟨w.heap.size, 0, none⟩ = some (.int .i64 kind) := (blk_cell hP1 0).trans rfl
    have e1 : IntKind.u8.wrap kind = kind := by have := HP.out; show kind % 256 = kind; omega
    have e2 : IntKind.u64.wrap num = num := u64_small (by have := HP.out; omega) (by have := HP.out; unfold M64; omega)
    have kb := fun W => print_bytes (P := Try.prog) 9 22 5 Try.underlying9 Try.underlying22 Try.underlying5 name W
    have HB0 := Aside0.mk hb0; have HP0 := Aside0.mk hP0; have HBA := Aside0.mk hb1
    clear hb0 hP0 hb1 hP1 HB1 HP1
    go_wp2_with (first | ((with_reducible refine gate_builtin (b := .append) (xs := #[.tmp 8, .tmp 12]) rfl ?_); at_builtin; refine Kd.R_append_row (Value.int .u8) (0 : Int) (h1 := fun _ => rfl) (w0 := W0) W0.heap.size rfl (.tmp 8) (.tmp 12) 22 5 (.int .u8 0) 1 rfl Try.underlying22 info5 rfl (by omega) (.slice none 0 0) ([] : List Int) ([kind]) (some ⟨w1.heap.size, 0, none⟩) (1) (1) (fun _ => True) rfl rfl (fun _ _ => trivial) ?aO ?aR ?aB ?aS ?aL ?_; (case aO => exact Kd.R_nil _ _ _ _ _); (case aR => exact C_lit_new .u8 5 w1 [kind] 1 _ (by rfl) rfl (by decide)); (case aB => exact HBA.out.alloc hs1 _); (case aS => exact below_size (HBA.out.alloc hs1 _)); (case aL => simp); intro v1 w2 ho hb hg hat; rw [List.nil_append] at ho; have hO1 := Aside0.mk ho; have hB1 := Aside0.mk hb; have hs_2 := hb.size; have p1 : w2.cell? ⟨w.heap.size, 1, none⟩ = some (.int .i64 num) := (blk_cell (blk_below HP0.out hb) 1).trans rfl; clear ho hb hg hat))
    refine (scriniumref01_Bytes.calls 9 num 4 q2 _ HY.out).mono ?_
    rintro e w3 ⟨u2, rfl, hu2, hb2⟩
    obtain ⟨A2, c2, rfl, hc2, hr2⟩ := Kd.R_reads hu2
    have hs3 := hb2.size
    have HR1 := Aside0.mk (Kd.R_below hO1.out hb2); have HC2 := Aside0.mk hr2; have HB2 := Aside0.mk (below_step hB1.out hb2)
    clear hu2 hr2 hb2 e1 p1
    go_wp2_with (first | ((with_reducible refine gate_builtin (b := .append) (xs := #[.tmp 14, .tmp 18]) rfl ?_); at_builtin; refine Kd.R_append_row (Value.int .u8) (0 : Int) (h1 := fun _ => rfl) (w0 := W0) W0.heap.size rfl (.tmp 14) (.tmp 18) 22 5 (.int .u8 0) 1 rfl Try.underlying22 info5 rfl (by omega) (v1) ([kind]) (q2) (A2) (q2.length) (c2) (fun _ => True) rfl rfl (fun _ _ => trivial) ?aO ?aR ?aB ?aS ?aL ?_; (case aO => exact HR1.out); (case aR => exact HC2.out); (case aB => exact HB2.out); (case aS => exact below_size (HB2.out)); (case aL => (have := hq2.out); simp only [List.length_singleton]; omega); intro v2 w4 ho hb hg hat; have hO2 := Aside0.mk ho; have hB2 := Aside0.mk hb; have hs_4 := hb.size; have p2 : w4.cell? ⟨w.heap.size, 2, none⟩ = some (.string name) := (blk_cell (blk_below HP0.out hb) 2).trans rfl; clear ho hb hg hat))
    have hbw : Below w4.heap.size w4 (Lib.bytesWorld w4 5 name) := bytes_below (Below.refl _ _) (Nat.le_refl _) _ _
    have hcw : Bs.C (Lib.bytesWorld w4 5 name) (some ⟨w4.heap.size, 0, none⟩) name.size (bytesOf name) := Kd.C_of_reads (enc := Value.int .u8) (d := (0 : Int)) (h1 := fun _ => rfl) (bytes_reads w4 5 name (by omega))
    refine (text16_calls _ _ _ (bytesOf name) q3 _ hcw (bytesOf_length name) (grownCap_ge _ _ _ _) HX.out).mono ?_
    rintro e w5 ⟨u3, rfl, hu3, hb5⟩
    obtain ⟨A3, c3, rfl, hc3, hr3⟩ := Kd.R_reads hu3
    have hs5 := hb5.size
    have hzw : (Lib.bytesWorld w4 5 name).heap.size = w4.heap.size + 1 := Lib.bytesWorld_size _ _ _
    have HR3 := Aside0.mk (Kd.R_below (Kd.R_below hO2.out hbw) hb5); have HC3 := Aside0.mk hr3; have HB5 := Aside0.mk (below_step (below_step hB2.out hbw) hb5)
    clear hu3 hr3 hb5 hbw hcw e2 p2 kb
    go_wp2_with (first | ((with_reducible refine gate_builtin (b := .append) (xs := #[.tmp 20, .tmp 24]) rfl ?_); at_builtin; refine Kd.R_append_row (Value.int .u8) (0 : Int) (h1 := fun _ => rfl) (w0 := W0) W0.heap.size rfl (.tmp 20) (.tmp 24) 22 5 (.int .u8 0) 1 rfl Try.underlying22 info5 rfl (by omega) (v2) ([kind] ++ q2) (q3) (A3) (q3.length) (c3) (fun _ => True) rfl rfl (fun _ _ => trivial) ?aO ?aR ?aB ?aS ?aL ?_; (case aO => exact HR3.out); (case aR => exact HC3.out); (case aB => exact HB5.out); (case aS => exact below_size (HB5.out)); (case aL => (have := HP.out); (have := hq2.out); simp only [List.length_append, List.length_singleton]; omega); intro v3 w6 ho hb hg hat; have hO3 := Aside0.mk ho; have hB3 := Aside0.mk hb; have hs_6 := hb.size; have p3 : w6.cell? ⟨w.heap.size, 3, none⟩ = some (.slice A bd.length c) := (blk_cell (blk_below HP0.out hb) 3).trans rfl; clear ho hb hg hat))
    refine (text16_calls A bd.length c bd q4 _ (Kd.C_below HA.out hB3.out) rfl hc HZ.out).mono ?_
    rintro e w7 ⟨u4, rfl, hu4, hb7⟩
    obtain ⟨A4, c4, rfl, hc4, hr4⟩ := Kd.R_reads hu4
    have hs7 := hb7.size
    have HR4 := Aside0.mk (Kd.R_below hO3.out hb7); have HC4 := Aside0.mk hr4; have HB7 := Aside0.mk (below_step hB3.out hb7)
    clear hu4 hr4 hb7 p3
    go_wp2_with (first | ((with_reducible refine gate_builtin (b := .append) (xs := #[.tmp 26, .tmp 29]) rfl ?_); at_builtin; refine Kd.R_append_row (Value.int .u8) (0 : Int) (h1 := fun _ => rfl) (w0 := W0) W0.heap.size rfl (.tmp 26) (.tmp 29) 22 5 (.int .u8 0) 1 rfl Try.underlying22 info5 rfl (by omega) (v3) ([kind] ++ q2 ++ q3) (q4) (A4) (q4.length) (c4) (fun _ => True) rfl rfl (fun _ _ => trivial) ?aO ?aR ?aB ?aS ?aL ?_; (case aO => exact HR4.out); (case aR => exact HC4.out); (case aB => exact HB7.out); (case aS => exact below_size (HB7.out)); (case aL => (have := HP.out); (have := hq2.out); simp only [List.length_append, List.length_singleton]; omega); intro v4 w8 ho hb hg hat; have hO4 := Aside0.mk ho; have hB4 := Aside0.mk hb; have hs_8 := hb.size; clear ho hb hg hat))
    go_ret2
    rw [hf.out]
    exact ⟨_, rfl, Kd.R_lower hO4.out (by omega), HB0.out.trans (hB4.out.mono (by omega))⟩

end Go.Proofs.Ytcffacpdjcfidaa.Sb
