import Derived.Test.YtcffacpdjcfidaaGWr12
namespace Go.Proofs.Ytcffacpdjcfidaa.Sb
open Go.RowKit Go.Proofs.YtcffacpdjcfidaaW.PrintWords Go.Proofs.YtcffacpdjcfidaaW.PrintLast Go.Proofs.YtcffacpdjcfidaaW.PrintMore Go.Proofs.Ytcffacpdjcfidaa.PW
set_option linter.unusedVariables false
set_option linter.unusedSimpArgs false
theorem sameAskG_is (kind num : Int) (name : ByteArray) (bd : List Int) (hm : bd.length ≤ 140737488355328) : scriniumref16_SameAsk.f (bd.length + 1) kind num name bd kind num name bd = some true := by
  unfold scriniumref16_SameAsk.f
  rw [if_pos rfl, if_pos rfl, if_pos rfl, same_self bd hm]
  rfl
theorem sameAskG_calls (kind num : Int) (name : ByteArray) (bd : List Int) (A0 : Option Addr) (n0 c0 : Nat) (A1 : Option Addr) (n1 c1 : Nat) (w : World) (hr0 : Bs.C w A0 n0 bd) (h0 : bd.length = n0) (hc0 : n0 ≤ c0) (hr1 : Bs.C w A1 n1 bd) (h1 : bd.length = n1) (hc1 : n1 ≤ c1) (hm : n0 ≤ 140737488355328) :
    Calls Try.prog 12 #[.agg #[.int .i64 kind, .int .i64 num, .string name, .slice A0 n0 c0], .agg #[.int .i64 kind, .int .i64 num, .string name, .slice A1 n1 c1]] w fun e w' => e = .returned (.bool true) ∧ Below w.heap.size w w' := by
  subst h0
  subst h1
  exact scriniumref16_SameAsk.calls (bd.length + 1) kind num name A0 c0 bd kind num name A1 c1 bd true w hr0 hc0 hr1 hc1 (sameAskG_is kind num name bd hm)
set_option maxRecDepth 20000 in
set_option maxHeartbeats 16000000 in
theorem WireGets_walk (A : Option Addr) (len cap : Nat) (l : List Int) (w : World) (hl : l.length = len) (hC : Bs.C w A len l) (hc : len ≤ cap) (_hm : len ≤ maxLen) (hw : ∀ z, z ∈ l → (Lit.int .u8 z).wf = true) :
    Calls Try.prog 6 #[.slice A len cap] w fun e w' => e = .returned (.bool true) ∧ Below w.heap.size w w' := by
  subst hl
  have HY := Aside0.mk (wf_bytes hw)
  have HC0 := Aside0.mk hC
  have HCC := Aside0.mk hc
  clear hC hw hc _hm
  go_enter Try.func6, Try.ntmps6
  go_wp2_with fail
  refine (wakes_calls w).mono ?_
  rintro e w1 ⟨rfl, hb1⟩
  have HB1 := Aside0.mk hb1
  have hs1 := hb1.size
  clear hb1
  by_cases c1 : l.length > 4000
  · have c1i : (4000 : Int) < (l.length : Int) := by omega
    go_wp2_with fail
    go_ret
    exact ⟨rfl, HB1.out⟩
  have c1i : ¬ (4000 : Int) < (l.length : Int) := by omega
  go_wp2_with (first | ((with_reducible refine gate_builtin (b := .append) (xs := #[.tmp 21, .tmp 22]) rfl ?_); at_builtin; refine Kd.R_append_row (Value.int .u8) (0 : Int) (h1 := fun _ => rfl) (w0 := w) w.heap.size rfl (.tmp 21) (.tmp 22) 22 5 (.int .u8 0) 1 rfl Try.underlying22 info5 rfl (by omega) (.slice (some ⟨w1.heap.size, 0, none⟩) 0 0) ([] : List Int) l A l.length cap (fun _ => True) rfl rfl (fun _ _ => trivial) ?aO ?aR ?aB ?aS ?aL ?_; (case aO => exact Kd.R_of_own (World.ownsRow_made w1 #[] 0 hs1 (Nat.zero_le _) rfl) (fun _ _ => trivial)); (case aR => exact Kd.C_below HC0.out (HB1.out.alloc hs1 _)); (case aB => exact HB1.out.alloc hs1 _); (case aS => exact below_size (HB1.out.alloc hs1 _)); (case aL => simp; omega); intro v1 w2 ho hb hg hat; rw [List.nil_append] at ho; obtain ⟨A1, k1, rfl, hk1, hr1⟩ := Kd.R_reads ho; have HO := Aside0.mk hr1; have HK1 := Aside0.mk hk1; have HW := Aside0.mk hb; clear ho hb hg hat hr1 hk1))
  have HC := Aside0.mk (Kd.C_below HC0.out HW.out)
  clear HC0 HB1 hs1
  have hRA := refGetA_is l HY.out (by omega)
  have hRN := refGetN_is l HY.out (by omega)
  have hbA := fun h => getA_back l HY.out (by omega) h
  have hbN := fun h => getN_back l HY.out (by omega) h
  have hlA := getA_len l
  have hlN := getN_len l HY.out (by omega)
  obtain ⟨kA, nA, tA, bA, eA, hqA⟩ : ∃ a b c d e, getA l = (a, b, c, d, e) := ⟨_, _, _, _, _, rfl⟩
  obtain ⟨r1, r2, r3, r4, r5, hqN⟩ : ∃ a b c d e, getN l = (a, b, c, d, e) := ⟨_, _, _, _, _, rfl⟩
  rw [hqA] at hRA hbA hlA
  rw [hqN] at hRN hbN hlN
  simp only at hRA hRN hbA hbN hlA hlN
  obtain ⟨la1, la2⟩ := hlA
  obtain ⟨ln1, ln2⟩ := hlN
  have HRA := Aside0.mk hRA; have HRN := Aside0.mk hRN; have HBA := Aside0.mk hbA; have HBN := Aside0.mk hbN
  clear hRA hRN hbA hbN
  have hA := GetAsk_calls A1 l.length k1 l w2 HO.out rfl HK1.out (by omega) HY.out
  rw [hqA] at hA
  refine hA.mono ?_
  clear hA
  rintro e w3 ⟨u, rfl, hu, hb⟩
  obtain ⟨A3, k3, rfl, hk, hr⟩ := Kd.R_reads hu
  have HK3 := Aside0.mk hk; have H3 := Aside0.mk hr
  have n_HC := Aside0.mk (Kd.C_below HC.out hb)
  have n_HO := Aside0.mk (Kd.C_below HO.out hb)
  have n_HW := Aside0.mk (below_step HW.out hb)
  clear HC HO HW
  have HC := n_HC
  have HO := n_HO
  have HW := n_HW
  clear n_HC n_HO n_HW
  clear hu hr hk hb
  go_wp2_with fail
  generalize hgw : w3.alloc (Obj.cells #[.int .i64 kA, .int .i64 nA, .string (strOfNums tA), .slice A3 bA.length k3] 24) = w4
  have hb : Below w3.heap.size w3 w4 := by rw [← hgw]; exact below_alloc (Below.refl _ _) _
  have Pa := Aside0.mk (show w4.heap[w3.heap.size]? = some (.cells #[.int .i64 kA, .int .i64 nA, .string (strOfNums tA), .slice A3 bA.length k3] 24 (0, 0)) by rw [← hgw]; exact blk_new _ _)
  clear hgw
  have n_HC := Aside0.mk (Kd.C_below HC.out hb)
  have n_HO := Aside0.mk (Kd.C_below HO.out hb)
  have n_HW := Aside0.mk (below_step HW.out hb)
  have n_H3 := Aside0.mk (Kd.C_below H3.out hb)
  clear HC HO HW H3
  have HC := n_HC
  have HO := n_HO
  have HW := n_HW
  have H3 := n_H3
  clear n_HC n_HO n_HW n_H3
  clear hb
  have hA := scriniumref16_GetAsk.calls 10 A cap l _ _ _ _ _ w4 HC.out HCC.out HRA.out
  refine hA.mono ?_
  clear hA
  rintro e w5 ⟨u, rfl, hu, hb⟩
  obtain ⟨A5, k5, rfl, hk, hr⟩ := Kd.R_reads hu
  have HK5 := Aside0.mk hk; have H5 := Aside0.mk hr
  have n_HC := Aside0.mk (Kd.C_below HC.out hb)
  have n_HO := Aside0.mk (Kd.C_below HO.out hb)
  have n_HW := Aside0.mk (below_step HW.out hb)
  have n_H3 := Aside0.mk (Kd.C_below H3.out hb)
  have n_Pa := Aside0.mk (blk_below Pa.out hb)
  clear HC HO HW H3 Pa
  have HC := n_HC
  have HO := n_HO
  have HW := n_HW
  have H3 := n_H3
  have Pa := n_Pa
  clear n_HC n_HO n_HW n_H3 n_Pa
  clear hu hr hk hb
  go_wp2_with fail
  generalize hgw : w5.alloc (Obj.cells #[.int .i64 kA, .int .i64 nA, .string (strOfNums tA), .slice A5 bA.length k5] 24) = w6
  have hb : Below w5.heap.size w5 w6 := by rw [← hgw]; exact below_alloc (Below.refl _ _) _
  have Px := Aside0.mk (show w6.heap[w5.heap.size]? = some (.cells #[.int .i64 kA, .int .i64 nA, .string (strOfNums tA), .slice A5 bA.length k5] 24 (0, 0)) by rw [← hgw]; exact blk_new _ _)
  clear hgw
  have n_HC := Aside0.mk (Kd.C_below HC.out hb)
  have n_HO := Aside0.mk (Kd.C_below HO.out hb)
  have n_HW := Aside0.mk (below_step HW.out hb)
  have n_H3 := Aside0.mk (Kd.C_below H3.out hb)
  have n_Pa := Aside0.mk (blk_below Pa.out hb)
  have n_H5 := Aside0.mk (Kd.C_below H5.out hb)
  clear HC HO HW H3 Pa H5
  have HC := n_HC
  have HO := n_HO
  have HW := n_HW
  have H3 := n_H3
  have Pa := n_Pa
  have H5 := n_H5
  clear n_HC n_HO n_HW n_H3 n_Pa n_H5
  clear hb
  have hA := GetAnswer_calls A1 l.length k1 l w6 HO.out rfl HK1.out (by omega) HY.out
  rw [hqN] at hA
  refine hA.mono ?_
  clear hA
  rintro e w7 ⟨u, v, rfl, hu, hv, hb⟩
  obtain ⟨A7, k7, rfl, hk, hr⟩ := Kd.R_reads hu
  obtain ⟨B7, j7, rfl, hk', hr'⟩ := Kd.R_reads hv
  have HK7 := Aside0.mk hk; have H7 := Aside0.mk hr; have HJ7 := Aside0.mk hk'; have N7 := Aside0.mk hr'
  have n_HC := Aside0.mk (Kd.C_below HC.out hb)
  have n_HO := Aside0.mk (Kd.C_below HO.out hb)
  have n_HW := Aside0.mk (below_step HW.out hb)
  have n_H3 := Aside0.mk (Kd.C_below H3.out hb)
  have n_Pa := Aside0.mk (blk_below Pa.out hb)
  have n_H5 := Aside0.mk (Kd.C_below H5.out hb)
  have n_Px := Aside0.mk (blk_below Px.out hb)
  clear HC HO HW H3 Pa H5 Px
  have HC := n_HC
  have HO := n_HO
  have HW := n_HW
  have H3 := n_H3
  have Pa := n_Pa
  have H5 := n_H5
  have Px := n_Px
  clear n_HC n_HO n_HW n_H3 n_Pa n_H5 n_Px
  clear hu hr hk hb hv hr' hk'
  go_wp2_with fail
  generalize hgw : w7.alloc (Obj.cells #[.int .i64 r1, .int .i64 r2, .slice A7 r3.length k7, .slice B7 r4.length j7] 38) = w8
  have hb : Below w7.heap.size w7 w8 := by rw [← hgw]; exact below_alloc (Below.refl _ _) _
  have Pc := Aside0.mk (show w8.heap[w7.heap.size]? = some (.cells #[.int .i64 r1, .int .i64 r2, .slice A7 r3.length k7, .slice B7 r4.length j7] 38 (0, 0)) by rw [← hgw]; exact blk_new _ _)
  clear hgw
  have n_HC := Aside0.mk (Kd.C_below HC.out hb)
  have n_HO := Aside0.mk (Kd.C_below HO.out hb)
  have n_HW := Aside0.mk (below_step HW.out hb)
  have n_H3 := Aside0.mk (Kd.C_below H3.out hb)
  have n_Pa := Aside0.mk (blk_below Pa.out hb)
  have n_H5 := Aside0.mk (Kd.C_below H5.out hb)
  have n_Px := Aside0.mk (blk_below Px.out hb)
  have n_H7 := Aside0.mk (Kd.C_below H7.out hb)
  have n_N7 := Aside0.mk (Kd.C_below N7.out hb)
  clear HC HO HW H3 Pa H5 Px H7 N7
  have HC := n_HC
  have HO := n_HO
  have HW := n_HW
  have H3 := n_H3
  have Pa := n_Pa
  have H5 := n_H5
  have Px := n_Px
  have H7 := n_H7
  have N7 := n_N7
  clear n_HC n_HO n_HW n_H3 n_Pa n_H5 n_Px n_H7 n_N7
  clear hb
  have hA := scriniumref16_GetAnswer.calls 3000 A cap l _ _ _ _ _ w8 HC.out HCC.out HRN.out
  refine hA.mono ?_
  clear hA
  rintro e w9 ⟨u, v, rfl, hu, hv, hb⟩
  obtain ⟨A9, k9, rfl, hk, hr⟩ := Kd.R_reads hu
  obtain ⟨B9, j9, rfl, hk', hr'⟩ := Kd.R_reads hv
  have HK9 := Aside0.mk hk; have H9 := Aside0.mk hr; have HJ9 := Aside0.mk hk'; have N9 := Aside0.mk hr'
  have n_HC := Aside0.mk (Kd.C_below HC.out hb)
  have n_HO := Aside0.mk (Kd.C_below HO.out hb)
  have n_HW := Aside0.mk (below_step HW.out hb)
  have n_H3 := Aside0.mk (Kd.C_below H3.out hb)
  have n_Pa := Aside0.mk (blk_below Pa.out hb)
  have n_H5 := Aside0.mk (Kd.C_below H5.out hb)
  have n_Px := Aside0.mk (blk_below Px.out hb)
  have n_H7 := Aside0.mk (Kd.C_below H7.out hb)
  have n_N7 := Aside0.mk (Kd.C_below N7.out hb)
  have n_Pc := Aside0.mk (blk_below Pc.out hb)
  clear HC HO HW H3 Pa H5 Px H7 N7 Pc
  have HC := n_HC
  have HO := n_HO
  have HW := n_HW
  have H3 := n_H3
  have Pa := n_Pa
  have H5 := n_H5
  have Px := n_Px
  have H7 := n_H7
  have N7 := n_N7
  have Pc := n_Pc
  clear n_HC n_HO n_HW n_H3 n_Pa n_H5 n_Px n_H7 n_N7 n_Pc
  clear hu hr hk hb hv hr' hk'
  obtain ⟨w10, hgw⟩ : ∃ W, W = (w9.alloc (Obj.cells #[.int .i64 r1, .int .i64 r2, .slice A9 r3.length k9, .slice B9 r4.length j9] 38)) := ⟨_, rfl⟩
  have hb : Below w9.heap.size w9 w10 := by rw [hgw]; exact below_alloc (Below.refl _ _) _
  have Py := Aside0.mk (show w10.heap[w9.heap.size]? = some (.cells #[.int .i64 r1, .int .i64 r2, .slice A9 r3.length k9, .slice B9 r4.length j9] 38 (0, 0)) by rw [hgw]; exact blk_new _ _)
  have n_HC := Aside0.mk (Kd.C_below HC.out hb)
  have n_HO := Aside0.mk (Kd.C_below HO.out hb)
  have n_HW := Aside0.mk (below_step HW.out hb)
  have n_H3 := Aside0.mk (Kd.C_below H3.out hb)
  have n_Pa := Aside0.mk (blk_below Pa.out hb)
  have n_H5 := Aside0.mk (Kd.C_below H5.out hb)
  have n_Px := Aside0.mk (blk_below Px.out hb)
  have n_H7 := Aside0.mk (Kd.C_below H7.out hb)
  have n_N7 := Aside0.mk (Kd.C_below N7.out hb)
  have n_Pc := Aside0.mk (blk_below Pc.out hb)
  have n_H9 := Aside0.mk (Kd.C_below H9.out hb)
  have n_N9 := Aside0.mk (Kd.C_below N9.out hb)
  clear HC HO HW H3 Pa H5 Px H7 N7 Pc H9 N9
  have HC := n_HC
  have HO := n_HO
  have HW := n_HW
  have H3 := n_H3
  have Pa := n_Pa
  have H5 := n_H5
  have Px := n_Px
  have H7 := n_H7
  have N7 := n_N7
  have Pc := n_Pc
  have H9 := n_H9
  have N9 := n_N9
  clear n_HC n_HO n_HW n_H3 n_Pa n_H5 n_Px n_H7 n_N7 n_Pc n_H9 n_N9
  clear hb
  have fa0 : w10.cell? ⟨w3.heap.size, 0, none⟩ = some (.int .i64 kA) := (blk_cell Pa.out 0).trans rfl
  have fa1 : w10.cell? ⟨w3.heap.size, 1, none⟩ = some (.int .i64 nA) := (blk_cell Pa.out 1).trans rfl
  have fa2 : w10.cell? ⟨w3.heap.size, 2, none⟩ = some (.string (strOfNums tA)) := (blk_cell Pa.out 2).trans rfl
  have fa3 : w10.cell? ⟨w3.heap.size, 3, none⟩ = some (.slice A3 bA.length k3) := (blk_cell Pa.out 3).trans rfl
  have fx0 : w10.cell? ⟨w5.heap.size, 0, none⟩ = some (.int .i64 kA) := (blk_cell Px.out 0).trans rfl
  have fx1 : w10.cell? ⟨w5.heap.size, 1, none⟩ = some (.int .i64 nA) := (blk_cell Px.out 1).trans rfl
  have fx2 : w10.cell? ⟨w5.heap.size, 2, none⟩ = some (.string (strOfNums tA)) := (blk_cell Px.out 2).trans rfl
  have fx3 : w10.cell? ⟨w5.heap.size, 3, none⟩ = some (.slice A5 bA.length k5) := (blk_cell Px.out 3).trans rfl
  rw [hgw] at fa0 fa1 fa2 fa3 fx0 fx1 fx2 fx3
  have HGW := Aside0.mk hgw
  clear hgw
  go_wp2_with fail
  rw [← HGW.out]
  clear HGW
  clear fa0 fa1 fa2 fa3
  clear fx0 fx1 fx2 fx3
  refine (sameAskG_calls kA nA (strOfNums tA) bA A3 bA.length k3 A5 bA.length k5 w10 H3.out rfl HK3.out H5.out rfl HK5.out (by omega)).mono ?_
  rintro e w11 ⟨rfl, hb⟩
  have n_HC := Aside0.mk (Kd.C_below HC.out hb)
  have n_HO := Aside0.mk (Kd.C_below HO.out hb)
  have n_HW := Aside0.mk (below_step HW.out hb)
  have n_H3 := Aside0.mk (Kd.C_below H3.out hb)
  have n_Pa := Aside0.mk (blk_below Pa.out hb)
  have n_H5 := Aside0.mk (Kd.C_below H5.out hb)
  have n_Px := Aside0.mk (blk_below Px.out hb)
  have n_H7 := Aside0.mk (Kd.C_below H7.out hb)
  have n_N7 := Aside0.mk (Kd.C_below N7.out hb)
  have n_Pc := Aside0.mk (blk_below Pc.out hb)
  have n_H9 := Aside0.mk (Kd.C_below H9.out hb)
  have n_N9 := Aside0.mk (Kd.C_below N9.out hb)
  have n_Py := Aside0.mk (blk_below Py.out hb)
  clear HC HO HW H3 Pa H5 Px H7 N7 Pc H9 N9 Py
  have HC := n_HC
  have HO := n_HO
  have HW := n_HW
  have H3 := n_H3
  have Pa := n_Pa
  have H5 := n_H5
  have Px := n_Px
  have H7 := n_H7
  have N7 := n_N7
  have Pc := n_Pc
  have H9 := n_H9
  have N9 := n_N9
  have Py := n_Py
  clear n_HC n_HO n_HW n_H3 n_Pa n_H5 n_Px n_H7 n_N7 n_Pc n_H9 n_N9 n_Py
  clear hb
  have fc0 : w11.cell? ⟨w7.heap.size, 0, none⟩ = some (.int .i64 r1) := (blk_cell Pc.out 0).trans rfl
  have fc1 : w11.cell? ⟨w7.heap.size, 1, none⟩ = some (.int .i64 r2) := (blk_cell Pc.out 1).trans rfl
  have fc2 : w11.cell? ⟨w7.heap.size, 2, none⟩ = some (.slice A7 r3.length k7) := (blk_cell Pc.out 2).trans rfl
  have fc3 : w11.cell? ⟨w7.heap.size, 3, none⟩ = some (.slice B7 r4.length j7) := (blk_cell Pc.out 3).trans rfl
  have fy0 : w11.cell? ⟨w9.heap.size, 0, none⟩ = some (.int .i64 r1) := (blk_cell Py.out 0).trans rfl
  have fy1 : w11.cell? ⟨w9.heap.size, 1, none⟩ = some (.int .i64 r2) := (blk_cell Py.out 1).trans rfl
  have fy2 : w11.cell? ⟨w9.heap.size, 2, none⟩ = some (.slice A9 r3.length k9) := (blk_cell Py.out 2).trans rfl
  have fy3 : w11.cell? ⟨w9.heap.size, 3, none⟩ = some (.slice B9 r4.length j9) := (blk_cell Py.out 3).trans rfl
  go_wp2_with fail
  clear fc0 fc1 fc2 fc3
  clear fy0 fy1 fy2 fy3
  refine (sameAnswer_calls r1 r2 r3 r4 A7 r3.length k7 B7 r4.length j7 A9 r3.length k9 B9 r4.length j9 w11 H7.out rfl HK7.out N7.out rfl HJ7.out H9.out rfl HK9.out N9.out rfl HJ9.out (by omega) (by omega)).mono ?_
  rintro e w12 ⟨rfl, hb⟩
  have n_HC := Aside0.mk (Kd.C_below HC.out hb)
  have n_HO := Aside0.mk (Kd.C_below HO.out hb)
  have n_HW := Aside0.mk (below_step HW.out hb)
  have n_H3 := Aside0.mk (Kd.C_below H3.out hb)
  have n_Pa := Aside0.mk (blk_below Pa.out hb)
  have n_H5 := Aside0.mk (Kd.C_below H5.out hb)
  have n_Px := Aside0.mk (blk_below Px.out hb)
  have n_H7 := Aside0.mk (Kd.C_below H7.out hb)
  have n_N7 := Aside0.mk (Kd.C_below N7.out hb)
  have n_Pc := Aside0.mk (blk_below Pc.out hb)
  have n_H9 := Aside0.mk (Kd.C_below H9.out hb)
  have n_N9 := Aside0.mk (Kd.C_below N9.out hb)
  have n_Py := Aside0.mk (blk_below Py.out hb)
  clear HC HO HW H3 Pa H5 Px H7 N7 Pc H9 N9 Py
  have HC := n_HC
  have HO := n_HO
  have HW := n_HW
  have H3 := n_H3
  have Pa := n_Pa
  have H5 := n_H5
  have Px := n_Px
  have H7 := n_H7
  have N7 := n_N7
  have Pc := n_Pc
  have H9 := n_H9
  have N9 := n_N9
  have Py := n_Py
  clear n_HC n_HO n_HW n_H3 n_Pa n_H5 n_Px n_H7 n_N7 n_Pc n_H9 n_N9 n_Py
  clear hb
  go_wp2_with fail
  refine (same_calls_self A1 l.length k1 A l.length cap l w12 HO.out rfl HK1.out HC.out rfl HCC.out (by omega)).mono ?_
  rintro e w13 ⟨rfl, nd, rfl⟩
  have hb : Below w12.heap.size w12 (w12.drewN nd) := pw_below_drewN (Below.refl _ _) nd
  have n_HC := Aside0.mk (Kd.C_below HC.out hb)
  have n_HO := Aside0.mk (Kd.C_below HO.out hb)
  have n_HW := Aside0.mk (below_step HW.out hb)
  have n_H3 := Aside0.mk (Kd.C_below H3.out hb)
  have n_Pa := Aside0.mk (blk_below Pa.out hb)
  have n_H5 := Aside0.mk (Kd.C_below H5.out hb)
  have n_Px := Aside0.mk (blk_below Px.out hb)
  have n_H7 := Aside0.mk (Kd.C_below H7.out hb)
  have n_N7 := Aside0.mk (Kd.C_below N7.out hb)
  have n_Pc := Aside0.mk (blk_below Pc.out hb)
  have n_H9 := Aside0.mk (Kd.C_below H9.out hb)
  have n_N9 := Aside0.mk (Kd.C_below N9.out hb)
  have n_Py := Aside0.mk (blk_below Py.out hb)
  clear HC HO HW H3 Pa H5 Px H7 N7 Pc H9 N9 Py
  have HC := n_HC
  have HO := n_HO
  have HW := n_HW
  have H3 := n_H3
  have Pa := n_Pa
  have H5 := n_H5
  have Px := n_Px
  have H7 := n_H7
  have N7 := n_N7
  have Pc := n_Pc
  have H9 := n_H9
  have N9 := n_N9
  have Py := n_Py
  clear n_HC n_HO n_HW n_H3 n_Pa n_H5 n_Px n_H7 n_N7 n_Pc n_H9 n_N9 n_Py
  clear hb
  have fa0 : (w12.drewN nd).cell? ⟨w3.heap.size, 0, none⟩ = some (.int .i64 kA) := (blk_cell Pa.out 0).trans rfl
  have fa1 : (w12.drewN nd).cell? ⟨w3.heap.size, 1, none⟩ = some (.int .i64 nA) := (blk_cell Pa.out 1).trans rfl
  have fa2 : (w12.drewN nd).cell? ⟨w3.heap.size, 2, none⟩ = some (.string (strOfNums tA)) := (blk_cell Pa.out 2).trans rfl
  have fa3 : (w12.drewN nd).cell? ⟨w3.heap.size, 3, none⟩ = some (.slice A3 bA.length k3) := (blk_cell Pa.out 3).trans rfl
  go_wp2_with fail
  clear fa0 fa1 fa2 fa3
  generalize (w12.drewN nd) = w13 at *
  refine (PutAsk_calls kA nA (strOfNums tA) A3 bA.length k3 bA w13 (by omega) (by rw [strOfNums_size]; omega) rfl HK3.out H3.out).mono ?_
  rintro e w14 ⟨u, rfl, hu, hb⟩
  obtain ⟨Ap, kp, rfl, hk, hr⟩ := Kd.R_reads hu
  have HKp := Aside0.mk hk; have Hp := Aside0.mk hr
  have n_HC := Aside0.mk (Kd.C_below HC.out hb)
  have n_HO := Aside0.mk (Kd.C_below HO.out hb)
  have n_HW := Aside0.mk (below_step HW.out hb)
  have n_H3 := Aside0.mk (Kd.C_below H3.out hb)
  have n_Pa := Aside0.mk (blk_below Pa.out hb)
  have n_H5 := Aside0.mk (Kd.C_below H5.out hb)
  have n_Px := Aside0.mk (blk_below Px.out hb)
  have n_H7 := Aside0.mk (Kd.C_below H7.out hb)
  have n_N7 := Aside0.mk (Kd.C_below N7.out hb)
  have n_Pc := Aside0.mk (blk_below Pc.out hb)
  have n_H9 := Aside0.mk (Kd.C_below H9.out hb)
  have n_N9 := Aside0.mk (Kd.C_below N9.out hb)
  have n_Py := Aside0.mk (blk_below Py.out hb)
  clear HC HO HW H3 Pa H5 Px H7 N7 Pc H9 N9 Py
  have HC := n_HC
  have HO := n_HO
  have HW := n_HW
  have H3 := n_H3
  have Pa := n_Pa
  have H5 := n_H5
  have Px := n_Px
  have H7 := n_H7
  have N7 := n_N7
  have Pc := n_Pc
  have H9 := n_H9
  have N9 := n_N9
  have Py := n_Py
  clear n_HC n_HO n_HW n_H3 n_Pa n_H5 n_Px n_H7 n_N7 n_Pc n_H9 n_N9 n_Py
  clear hu hr hk hb
  have fc0 : w14.cell? ⟨w7.heap.size, 0, none⟩ = some (.int .i64 r1) := (blk_cell Pc.out 0).trans rfl
  have fc1 : w14.cell? ⟨w7.heap.size, 1, none⟩ = some (.int .i64 r2) := (blk_cell Pc.out 1).trans rfl
  have fc2 : w14.cell? ⟨w7.heap.size, 2, none⟩ = some (.slice A7 r3.length k7) := (blk_cell Pc.out 2).trans rfl
  have fc3 : w14.cell? ⟨w7.heap.size, 3, none⟩ = some (.slice B7 r4.length j7) := (blk_cell Pc.out 3).trans rfl
  go_wp2_with fail
  clear fc0 fc1 fc2 fc3
  refine (PutAnswer_calls r1 r2 A7 r3.length k7 r3 B7 j7 r4 w14 (by omega) (by omega) rfl HK7.out H7.out N7.out).mono ?_
  rintro e w15 ⟨u, rfl, hu, hb⟩
  obtain ⟨Aq, kq, rfl, hk, hr⟩ := Kd.R_reads hu
  have HKq := Aside0.mk hk; have Hq := Aside0.mk hr
  have n_HC := Aside0.mk (Kd.C_below HC.out hb)
  have n_HO := Aside0.mk (Kd.C_below HO.out hb)
  have n_HW := Aside0.mk (below_step HW.out hb)
  have n_H3 := Aside0.mk (Kd.C_below H3.out hb)
  have n_Pa := Aside0.mk (blk_below Pa.out hb)
  have n_H5 := Aside0.mk (Kd.C_below H5.out hb)
  have n_Px := Aside0.mk (blk_below Px.out hb)
  have n_H7 := Aside0.mk (Kd.C_below H7.out hb)
  have n_N7 := Aside0.mk (Kd.C_below N7.out hb)
  have n_Pc := Aside0.mk (blk_below Pc.out hb)
  have n_H9 := Aside0.mk (Kd.C_below H9.out hb)
  have n_N9 := Aside0.mk (Kd.C_below N9.out hb)
  have n_Py := Aside0.mk (blk_below Py.out hb)
  have n_Hp := Aside0.mk (Kd.C_below Hp.out hb)
  clear HC HO HW H3 Pa H5 Px H7 N7 Pc H9 N9 Py Hp
  have HC := n_HC
  have HO := n_HO
  have HW := n_HW
  have H3 := n_H3
  have Pa := n_Pa
  have H5 := n_H5
  have Px := n_Px
  have H7 := n_H7
  have N7 := n_N7
  have Pc := n_Pc
  have H9 := n_H9
  have N9 := n_N9
  have Py := n_Py
  have Hp := n_Hp
  clear n_HC n_HO n_HW n_H3 n_Pa n_H5 n_Px n_H7 n_N7 n_Pc n_H9 n_N9 n_Py n_Hp
  clear hu hr hk hb
  clear hqA hqN
  by_cases zA : eA = 0
  · subst zA
    have hpA := HBA.out rfl
    rw [hpA] at Hp HKp ⊢
    by_cases zN : r5 = 0
    · subst zN
      have hpN := HBN.out rfl
      rw [hpN] at Hq HKq ⊢
      clear hpA hpN
      go_wp2_with fail
      refine (same_calls_self Ap l.length kp A l.length cap l w15 Hp.out rfl HKp.out HC.out rfl HCC.out (by omega)).mono ?_
      rintro e w16 ⟨rfl, nd2, rfl⟩
      go_wp2_with fail
      refine (same_calls_self Aq l.length kq A l.length cap l _ (Kd.C_drewN Hq.out _) rfl HKq.out (Kd.C_drewN HC.out _) rfl HCC.out (by omega)).mono ?_
      rintro e w17 ⟨rfl, nd3, rfl⟩
      go_wp2_with fail
      go_ret
      exact ⟨rfl, pw_below_drewN HW.out _⟩
    · have zb0 : (r5 == 0) = false := beq_eq_false_iff_ne.mpr zN
      have zb1 : (r5 != 0) = true := bne_iff_ne.mpr zN
      clear hpA
      go_wp2_with fail
      refine (same_calls_self Ap l.length kp A l.length cap l w15 Hp.out rfl HKp.out HC.out rfl HCC.out (by omega)).mono ?_
      rintro e w16 ⟨rfl, nd2, rfl⟩
      go_wp2_with fail
      go_ret
      exact ⟨rfl, pw_below_drewN HW.out _⟩
  · have za0 : (eA == 0) = false := beq_eq_false_iff_ne.mpr zA
    have za1 : (eA != 0) = true := bne_iff_ne.mpr zA
    by_cases zN : r5 = 0
    · subst zN
      have hpN := HBN.out rfl
      rw [hpN] at Hq HKq ⊢
      clear hpN
      go_wp2_with fail
      refine (same_calls_self Aq l.length kq A l.length cap l _ Hq.out rfl HKq.out HC.out rfl HCC.out (by omega)).mono ?_
      rintro e w17 ⟨rfl, nd3, rfl⟩
      go_wp2_with fail
      go_ret
      exact ⟨rfl, pw_below_drewN HW.out _⟩
    · have zb0 : (r5 == 0) = false := beq_eq_false_iff_ne.mpr zN
      have zb1 : (r5 != 0) = true := bne_iff_ne.mpr zN
      go_wp2_with fail
      go_ret
      exact ⟨rfl, HW.out⟩
end Go.Proofs.Ytcffacpdjcfidaa.Sb
